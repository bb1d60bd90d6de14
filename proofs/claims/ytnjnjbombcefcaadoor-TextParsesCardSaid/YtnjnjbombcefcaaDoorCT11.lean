/- Contracts of the program's readers of values' texts: value.Parse. -/
import Derived.Test.YtnjnjbombcefcaaDoorCT4
set_option linter.all false
namespace Go.Proofs
open Go.AL
attribute [local irreducible] Go.AL.W Go.AL.WL Go.AL.WD Go.AL.POp Go.AL.PPOp Go.AL.POpS Go.AL.PC Go.AL.AC Go.AL.YW Go.AL.Ret Go.AL.Le Go.AL.thn Go.AL.inBlk Go.AL.scp
noncomputable def readP : List UInt8 → Val
  | []=>zV
  | c :: r=>if c = 116 ∨ c = 102 then ⟨2,IntKind.i64.wrap (5 - ((c :: r).length : Int)),[]⟩ else if c = 64 then ⟨5,pN r,[]⟩ else if c = 33 then ⟨6,pN r,[]⟩ else if c = 58 then ⟨7,0,r⟩
    else if c = 35 then (match unhex r with
      | some l=>⟨4,0,l⟩
      | none=>zV) else if c = 34 then ⟨3,0,unqV (cutL r)⟩ else ⟨1,pN (c :: r),[]⟩
theorem numO_some {s : List UInt8} {n : Int} (h : numO s = some n) : pN s = n:=by
  unfold numO at h
  split at h
  · cases h;rfl
  · cases h
theorem numO_is (s : List UInt8) : (numO s).isSome = pB s:=by unfold numO;cases pB s <;> simp
theorem readP_of {s : List UInt8} {v : Val} (h : readL s = some v) : readP s = v:=by
  cases s with
  | nil=>simp [readL] at h
  | cons c r =>
    rw [readL] at h
    unfold readP
    simp only
    split at h
    · rename_i h1
      rw [if_pos h1]
      split at h
      · rename_i e;cases h;injection e with _ e;subst e;rfl
      · split at h
        · rename_i e;cases h;injection e with _ e;subst e;rfl
        · cases h
    · rename_i h1
      rw [if_neg h1]
      split at h
      · rename_i e;rw [if_pos e]
        obtain ⟨n,hn,rfl⟩:=Option.map_eq_some_iff.1 h
        rw [numO_some hn]
      · rename_i e;rw [if_neg e]
        split at h
        · rename_i e;rw [if_pos e]
          obtain ⟨n,hn,rfl⟩:=Option.map_eq_some_iff.1 h
          rw [numO_some hn]
        · rename_i e;rw [if_neg e]
          split at h
          · rename_i e;rw [if_pos e];cases h;rfl
          · rename_i e;rw [if_neg e]
            split at h
            · rename_i e;rw [if_pos e]
              obtain ⟨n,hn,rfl⟩:=Option.map_eq_some_iff.1 h
              rw [hn]
            · rename_i e;rw [if_neg e]
              split at h
              · rename_i e;rw [if_pos e]
                split at h
                · rename_i hl
                  obtain ⟨n,hn,rfl⟩:=Option.map_eq_some_iff.1 h
                  unfold cutL unqV
                  rw [if_pos (sufB_t.2 hl),hn];rfl
                · cases h
              · rename_i e;rw [if_neg e]
                obtain ⟨n,hn,rfl⟩:=Option.map_eq_some_iff.1 h
                rw [numO_some hn]
noncomputable def readB (s : List UInt8) : Bool:=(readL s).isSome
theorem u8nT {c : UInt8} {r : List UInt8} {k : Nat} (hk : k < 256) : (((c :: r)[0]'(by simp)).toNat : Int) = (k : Int) ↔ c = UInt8.ofNat k:=by
  show (c.toNat : Int) = (k : Int) ↔ c = UInt8.ofNat k
  constructor
  · intro h
    apply UInt8.toNat_inj.1
    rw [UInt8.toNat_ofNat'];omega
  · rintro rfl
    rw [UInt8.toNat_ofNat'];omega
abbrev hd0 (c : UInt8) (r : List UInt8) : Int:=(((c :: r)[0]'(by simp)).toNat : Int)
theorem p116 {c : UInt8} {r : List UInt8} (h : hd0 c r = 116) : c = 116:=(u8nT (k:=116) (by decide)).1 h
theorem p102 {c : UInt8} {r : List UInt8} (h : hd0 c r = 102) : c = 102:=(u8nT (k:=102) (by decide)).1 h
theorem p64 {c : UInt8} {r : List UInt8} (h : hd0 c r = 64) : c = 64:=(u8nT (k:=64) (by decide)).1 h
theorem p33 {c : UInt8} {r : List UInt8} (h : hd0 c r = 33) : c = 33:=(u8nT (k:=33) (by decide)).1 h
theorem p58 {c : UInt8} {r : List UInt8} (h : hd0 c r = 58) : c = 58:=(u8nT (k:=58) (by decide)).1 h
theorem p35 {c : UInt8} {r : List UInt8} (h : hd0 c r = 35) : c = 35:=(u8nT (k:=35) (by decide)).1 h
theorem p34 {c : UInt8} {r : List UInt8} (h : hd0 c r = 34) : c = 34:=(u8nT (k:=34) (by decide)).1 h
theorem rd_tf {c : UInt8} {r : List UInt8} (h : hd0 c r = 116 ∨ hd0 c r = 102) : readP (c :: r) = ⟨2,IntKind.i64.wrap (5 - ((c :: r).length : Int)),[]⟩:=by
  unfold readP;simp only;rw [if_pos (h.imp p116 p102)]
theorem rdB_tf {c : UInt8} {r : List UInt8} (h : hd0 c r = 116 ∨ hd0 c r = 102) (hn : c :: r ≠ [116,114,117,101]) : sEq (c :: r) [102,97,108,115,101] = readB (c :: r):=by
  unfold readB readL;simp only;rw [if_pos (h.imp p116 p102),if_neg hn]
  rw [Bool.eq_iff_iff,sEq_t]
  split <;> simp_all
theorem rdB_t {c : UInt8} {r : List UInt8} (h : c :: r = [116,114,117,101]) : true = readB (c :: r):=by rw [h];simp [readB,readL]
theorem ntf {c : UInt8} {r : List UInt8} (h1 : hd0 c r ≠ 116) (h2 : hd0 c r ≠ 102) : ¬ (c = 116 ∨ c = 102):=by
  rintro (h|h)
  · exact h1 ((u8nT (k:=116) (by decide)).2 h)
  · exact h2 ((u8nT (k:=102) (by decide)).2 h)
theorem rd_64 {c : UInt8} {r : List UInt8} (h1 : hd0 c r ≠ 116) (h2 : hd0 c r ≠ 102) (h : hd0 c r = 64) : readP (c :: r) = ⟨5,pN r,[]⟩ ∧ readB (c :: r) = pB r:=by
  unfold readB readL readP;simp only [if_neg (ntf h1 h2),if_pos (p64 h),Option.isSome_map,numO_is,and_self]
theorem n64 {c : UInt8} {r : List UInt8} (h : hd0 c r ≠ 64) : ¬ c = 64:=fun e=>h ((u8nT (k:=64) (by decide)).2 e)
theorem n33 {c : UInt8} {r : List UInt8} (h : hd0 c r ≠ 33) : ¬ c = 33:=fun e=>h ((u8nT (k:=33) (by decide)).2 e)
theorem n58 {c : UInt8} {r : List UInt8} (h : hd0 c r ≠ 58) : ¬ c = 58:=fun e=>h ((u8nT (k:=58) (by decide)).2 e)
theorem n35 {c : UInt8} {r : List UInt8} (h : hd0 c r ≠ 35) : ¬ c = 35:=fun e=>h ((u8nT (k:=35) (by decide)).2 e)
theorem n34 {c : UInt8} {r : List UInt8} (h : hd0 c r ≠ 34) : ¬ c = 34:=fun e=>h ((u8nT (k:=34) (by decide)).2 e)
theorem rd_33 {c : UInt8} {r : List UInt8} (h1 : hd0 c r ≠ 116) (h2 : hd0 c r ≠ 102) (h3 : hd0 c r ≠ 64) (h : hd0 c r = 33) : readP (c :: r) = ⟨6,pN r,[]⟩ ∧ readB (c :: r) = pB r:=by
  unfold readB readL readP;simp only [if_neg (ntf h1 h2),if_neg (n64 h3),if_pos (p33 h),Option.isSome_map,numO_is,and_self]
theorem rd_58 {c : UInt8} {r : List UInt8} (h1 : hd0 c r ≠ 116) (h2 : hd0 c r ≠ 102) (h3 : hd0 c r ≠ 64) (h4 : hd0 c r ≠ 33) (h : hd0 c r = 58) : readP (c :: r) = ⟨7,0,r⟩ ∧ readB (c :: r) = true:=by
  unfold readB readL readP;simp only [if_neg (ntf h1 h2),if_neg (n64 h3),if_neg (n33 h4),if_pos (p58 h),Option.isSome_some,and_self]
theorem rd_35 {c : UInt8} {r : List UInt8} (h1 : hd0 c r ≠ 116) (h2 : hd0 c r ≠ 102) (h3 : hd0 c r ≠ 64) (h4 : hd0 c r ≠ 33) (h5 : hd0 c r ≠ 58) (h : hd0 c r = 35) :
    (unhex r = none → readP (c :: r) = zV ∧ readB (c :: r) = false) ∧ ∀ l,unhex r = some l → readP (c :: r) = ⟨4,0,l⟩ ∧ readB (c :: r) = true:=by
  unfold readB readL readP;simp only [if_neg (ntf h1 h2),if_neg (n64 h3),if_neg (n33 h4),if_neg (n58 h5),if_pos (p35 h),Option.isSome_map]
  refine ⟨fun hu=>?_,fun l hu=>?_⟩ <;> rw [hu] <;> simp
theorem rd_34 {c : UInt8} {r : List UInt8} (h1 : hd0 c r ≠ 116) (h2 : hd0 c r ≠ 102) (h3 : hd0 c r ≠ 64) (h4 : hd0 c r ≠ 33) (h5 : hd0 c r ≠ 58) (h6 : hd0 c r ≠ 35) (h : hd0 c r = 34) :
    readP (c :: r) = ⟨3,0,unqV (cutL r)⟩ ∧ readB (c :: r) = (sufB r && (unq (cutL r)).isSome):=by
  unfold readB readL readP;simp only [if_neg (ntf h1 h2),if_neg (n64 h3),if_neg (n33 h4),if_neg (n58 h5),if_neg (n35 h6),if_pos (p34 h),true_and]
  unfold cutL
  cases hb : sufB r with
  | true=>simp [sufB_t.1 hb]
  | false=>simp [show ¬ r.getLast? = some 34 from fun e=>by rw [sufB_t.2 e] at hb;cases hb]
theorem rd_n {c : UInt8} {r : List UInt8} (h1 : hd0 c r ≠ 116) (h2 : hd0 c r ≠ 102) (h3 : hd0 c r ≠ 64) (h4 : hd0 c r ≠ 33) (h5 : hd0 c r ≠ 58) (h6 : hd0 c r ≠ 35) (h7 : hd0 c r ≠ 34) :
    readP (c :: r) = ⟨1,pN (c :: r),[]⟩ ∧ readB (c :: r) = pB (c :: r):=by
  unfold readB readL readP;simp only [if_neg (ntf h1 h2),if_neg (n64 h3),if_neg (n33 h4),if_neg (n58 h5),if_neg (n35 h6),if_neg (n34 h7),Option.isSome_map,numO_is,and_self]
theorem cutL_len (s : List UInt8) : (cutL s).length ≤ s.length:=by unfold cutL;split <;> simp
def pA (r : Nat) : List UInt8 → AV
  | []=>.sc (.pointer none)
  | _ :: _=>.bp r 0
theorem pA_own (r : Nat) (l : List UInt8) : ownP r (pA r l):=by cases l;exact .inl rfl;exact .inr rfl
theorem pA_snoc (r : Nat) (l : List UInt8) (c : UInt8) : pA r (l ++ [c]) = .bp r 0:=by cases l <;> rfl
theorem unq_len (s : List UInt8) : (unqV s).length ≤ s.length:=by
  unfold unqV
  rcases h : unq s with _|l
  · simp
  · have:=unq_inv _ s l (Nat.le_refl _) h
    have h2 : ∀ l : List UInt8,l.length ≤ (l.flatMap escL).length:=fun l=>by
      induction l with
      | nil=>simp
      | cons c l ih =>
        rw [List.flatMap_cons,List.length_append,List.length_cons]
        have : 1 ≤ (escL c).length:=by unfold escL;split <;> simp
        omega
    have h3:=h2 l
    rw [this] at h3
    exact h3
theorem readP_len (s : List UInt8) (hs : s.length < 268435456) : (readP s).s.length < 9223372036854775808:=by
  cases s with
  | nil=>simp [readP]
  | cons c r =>
    have hr : r.length < 268435456:=by simp at hs;omega
    unfold readP;simp only
    split
    · simp
    · split
      · simp
      · split
        · simp
        · split
          · simp only;omega
          · split
            · rcases h : unhex r with _|l
              · simp
              · have h1:=hexs_len l
                rw [unhex_inv _ _ h] at h1
                simp only;omega
            · split
              · have h1:=unq_len (cutL r)
                have h2:=cutL_len r
                simp only;omega
              · simp
set_option maxHeartbeats 32000000 in
theorem read_pc [GlobF Tryd.prog] (hp : PowOK) (he : ErrsOK) (s : List UInt8) (hs : s.length < 268435456) : PC Tryd.prog 85 [str s] (.tu [eV (readP s),.sc (.bool (readB s))]):=by
  cases s with
  | nil =>
    refine PC.of_body Tryd.func85 Tryd.ntmps85 rfl rfl rfl ?_
    repeat' first
 | (apply p1 (hd:=rfl);case hop=>first|(apply D_move;rfl)|(apply D_str;rfl;rfl;rfl)|exact D_build rfl)
 | refine W_seq ?_
 | refine W_region ?_
 | (refine idC ?_;refine cs rfl (fun _=>?_) (fun _=>?_))
 | refine WL_nil ?_
 | refine tn ?_
 | refine tr ?_
 | refine W_skip ?_
 | refine W_ret ?_
 | (refine idR ?_;first|refine rL2 rfl (by first|exact trivial|exact ⟨rfl,trivial⟩) (by first|exact ResO.tmp rfl|exact ResO.cellBA rfl rfl rfl|exact ResO.cellB1 rfl rfl rfl|exact ResO.cellEA rfl rfl|exact ResO.cellE1 rfl) (by first|exact ResO.tmp rfl|exact ResO.cellBA rfl rfl rfl|exact ResO.cellB1 rfl rfl rfl|exact ResO.cellEA rfl rfl|exact ResO.cellE1 rfl) ?_ ?_)
 | (refine idA ?_;refine m_alloc rfl ?_)
 | (refine idS ?_;refine pS (S_store rfl rfl rfl rfl rfl rfl rfl) ?_)
 | (refine Le.bool ?_)
    · exact Le.of_eq rfl
    · simp [readB,readL]
    all_goals contradiction
  | cons c r =>
    have hr : r.length < 268435456:=by simp at hs;omega
    have hcl:=cutL_len r
    refine PC.of_body Tryd.func85 Tryd.ntmps85 rfl rfl rfl ?_
    repeat' first
 | (refine m_allocT rfl ?_;refine WL_adoptC 2 1 1 5 rfl rfl ?_)
 | (apply p1 (hd:=rfl);case hop=>first|(apply D_move;rfl)|(apply D_assign;rfl)|(refine D_eqv (D_slSl (l:=c :: r) (i:=1) rfl rfl (by decide) ?_) (v':=str r) rfl;rw [List.length_cons];omega)|(apply D_pc (number_pc hp he r (by omega));rfl;exact .same rfl .nil)|(apply D_pc (number_pc hp he (c :: r) (by omega));rfl;exact .same rfl .nil)|(apply D_pc (cut_pc r (by omega));rfl;exact .same rfl (.same rfl .nil))|(apply D_pc (quoted_pc (cutL r) (by omega));rfl;exact .same rfl .nil)|(apply D_pickT;rfl;rfl)|(apply D_pickF;rfl;rfl)|(apply D_int;rfl;rfl;rfl)|(apply D_len_str;rfl)|(apply D_str;rfl;rfl;rfl)|(apply D_ext;rfl;rfl)|(apply D_idxSn;rfl;rfl;(first|omega|(simp;done)))|exact D_build rfl)
 | refine W_seq ?_
 | refine W_region ?_
 | (refine idC ?_;first|refine c1 rfl ?_|refine cs rfl (fun _=>?_) (fun _=>?_))
 | refine WL_nil ?_
 | (refine idG ?_;first|refine g0t rfl rfl rfl ?_|refine g0f rfl rfl rfl ?_|refine gr rfl rfl ?_|refine gs rfl rfl (fun _=>?_) (fun _=>?_))
 | refine tn ?_
 | refine tr ?_
 | refine br ?_
 | refine bn ?_
 | refine W_skip ?_
 | refine W_block ?_
 | refine W_ret ?_
 | (refine idR ?_;first|refine rL2 rfl (by first|exact trivial|exact ⟨rfl,trivial⟩) (by first|exact ResO.tmp rfl|exact ResO.cellBA rfl rfl rfl|exact ResO.cellB1 rfl rfl rfl|exact ResO.cellEA rfl rfl|exact ResO.cellE1 rfl) (by first|exact ResO.tmp rfl|exact ResO.cellBA rfl rfl rfl|exact ResO.cellB1 rfl rfl rfl|exact ResO.cellEA rfl rfl|exact ResO.cellE1 rfl) ?_ ?_)
 | (refine idA ?_;refine m_alloc rfl ?_)
 | (refine idS ?_;refine pS (S_store rfl rfl rfl rfl rfl rfl rfl) ?_)
 | refine Le.bool ?_
 | (refine m_call (d:=65) (pairs_ac r) rfl rfl rfl ?_;rintro _ _ ⟨rfl,rfl⟩)
    all_goals first
      | contradiction
      | (rw [rd_tf (.inl (by assumption))];exact Le.of_eq rfl)
      | (rw [rd_tf (.inr (by assumption))];exact Le.of_eq rfl)
      | (rw [(rd_64 (by assumption) (by assumption) (by assumption)).1];exact Le.of_eq rfl)
      | (rw [(rd_64 (by assumption) (by assumption) (by assumption)).2];done)
      | (rw [(rd_33 (by assumption) (by assumption) (by assumption) (by assumption)).1];exact Le.of_eq rfl)
      | (rw [(rd_33 (by assumption) (by assumption) (by assumption) (by assumption)).2];done)
      | (rw [(rd_58 (by assumption) (by assumption) (by assumption) (by assumption) (by assumption)).1];exact Le.of_eq rfl)
      | (rw [(rd_58 (by assumption) (by assumption) (by assumption) (by assumption) (by assumption)).2];done)
      | (rw [(rd_34 (by assumption) (by assumption) (by assumption) (by assumption) (by assumption) (by assumption) (by assumption)).1];exact Le.of_eq rfl)
      | (rw [(rd_34 (by assumption) (by assumption) (by assumption) (by assumption) (by assumption) (by assumption) (by assumption)).2];rename_i hh;rw [hh];done)
      | (rw [(rd_34 (by assumption) (by assumption) (by assumption) (by assumption) (by assumption) (by assumption) (by assumption)).2];rename_i hh;rw [hh];rfl)
      | (rw [(rd_n (by assumption) (by assumption) (by assumption) (by assumption) (by assumption) (by assumption) (by assumption)).1];exact Le.of_eq rfl)
      | (rw [(rd_n (by assumption) (by assumption) (by assumption) (by assumption) (by assumption) (by assumption) (by assumption)).2];done)
      | exact rdB_t (by assumption)
      | exact rdB_tf (.inl (by assumption)) (by assumption)
      | exact rdB_tf (.inr (by assumption)) (by assumption)
      | skip
    rename_i g1 g2 g3 g4 g5 g6
    obtain ⟨hn,hsm⟩:=rd_35 g1 g2 g3 g4 g5 g6
    refine W_range (.inl rfl) fun l=>?_
    refine pairs1_acE 4 l (fun acc s=>[_,_,.cells (bCells (pA 2 acc) 3 acc []) (some 89),.tail acc.length 1 5,.cells [str s] none,_,_]) (by omega) rfl (fun _ _=>rfl) (fun _ _ _=>rfl) ?_ ?_ ?_
    · intro acc s c' hlen hne hc'
      have hal : acc.length < 1099511627776:=by omega
      refine YW.round (r:=6) rfl rfl rfl ?_
      repeat' first
 | (apply p1 (hd:=rfl);case hop=>first|(apply D_assign;rfl))
 | refine W_seq ?_
 | refine W_region ?_
 | refine WL_nil ?_
 | (refine tn ?_)
      refine ⟨rfl,rfl,?_⟩
      repeat' first
 | (apply p1 (hd:=rfl);case hop=>first|(apply D_move;rfl)|(apply D_not;rfl)|exact D_build rfl)
 | refine W_seq ?_
 | refine W_region ?_
 | (refine idC ?_;refine cs rfl (fun _=>?_) (fun _=>?_))
 | refine WL_nil ?_
 | refine tn ?_
 | refine tr ?_
 | refine br ?_
 | refine bn ?_
 | refine W_skip ?_
 | refine W_block ?_
 | refine W_ret ?_
 | (refine idS ?_;refine pS (S_store rfl rfl rfl rfl rfl rfl rfl) ?_)
 | (refine m_call (d:=72) (wbyte_ac (r:=2) (tk:=3) (l:=acc) (n:=2) rfl ⟨rfl,rfl,pA_own 2 acc,hal⟩ c') rfl rfl rfl ?_;rintro _ _ ⟨rfl,rfl⟩)
      · contradiction
      · refine ⟨rfl,⟨_,_,rfl⟩,rfl,?_⟩
        rw [pA_snoc];rfl
    · intro acc s c' hlen hne hc' hu
      refine YW.round (r:=6) rfl rfl rfl ?_
      repeat' first
 | (apply p1 (hd:=rfl);case hop=>first|(apply D_assign;rfl))
 | refine W_seq ?_
 | refine W_region ?_
 | refine WL_nil ?_
 | (refine tn ?_)
      refine ⟨rfl,rfl,?_⟩
      repeat' first
 | (apply p1 (hd:=rfl);case hop=>first|(apply D_move;rfl)|(apply D_not;rfl)|exact D_build rfl)
 | refine W_seq ?_
 | refine W_region ?_
 | (refine idC ?_;refine cs rfl (fun _=>?_) (fun _=>?_))
 | refine WL_nil ?_
 | refine tn ?_
 | refine tr ?_
 | refine br ?_
 | refine W_skip ?_
 | refine W_block ?_
 | refine W_ret ?_
 | (refine idS ?_;refine pS (S_store rfl rfl rfl rfl rfl rfl rfl) ?_)
      · refine ⟨rfl,⟨_,_,rfl⟩,⟨_,_,rfl,by decide,?_⟩⟩
        repeat' first
 | refine tr ?_
 | refine br ?_
 | (refine idR ?_;first|refine rL2 rfl (by first|exact trivial|exact ⟨rfl,trivial⟩) (by first|exact ResO.tmp rfl|exact ResO.cellBA rfl rfl rfl|exact ResO.cellB1 rfl rfl rfl|exact ResO.cellEA rfl rfl|exact ResO.cellE1 rfl) (by first|exact ResO.tmp rfl|exact ResO.cellBA rfl rfl rfl|exact ResO.cellB1 rfl rfl rfl|exact ResO.cellEA rfl rfl|exact ResO.cellE1 rfl) ?_ ?_)
 | (refine Le.bool ?_)
        · rw [(hn hu).1];exact Le.of_eq rfl
        · rw [(hn hu).2]
      · contradiction
    · intro out hu
      have hol : out.length < 1099511627776:=by
        have h1:=hexs_len out
        rw [unhex_inv _ _ hu] at h1
        omega
      refine ⟨_,_,rfl,by decide,?_⟩
      repeat' first
 | (apply p1 (hd:=rfl);case hop=>first|exact D_build rfl)
 | refine W_seq ?_
 | refine W_region ?_
 | refine WL_nil ?_
 | refine tn ?_
 | refine tr ?_
 | refine br ?_
 | refine bn ?_
 | refine W_ret ?_
 | (refine idR ?_;first|refine rL2 rfl (by first|exact trivial|exact ⟨rfl,trivial⟩) (by first|exact ResO.tmp rfl|exact ResO.cellBA rfl rfl rfl|exact ResO.cellB1 rfl rfl rfl|exact ResO.cellEA rfl rfl|exact ResO.cellE1 rfl) (by first|exact ResO.tmp rfl|exact ResO.cellBA rfl rfl rfl|exact ResO.cellB1 rfl rfl rfl|exact ResO.cellEA rfl rfl|exact ResO.cellE1 rfl) ?_ ?_)
 | (refine idS ?_;refine pS (S_store rfl rfl rfl rfl rfl rfl rfl) ?_)
 | refine Le.bool ?_
 | (refine m_call (d:=73) (bstr_ac (r:=2) (tk:=3) (l:=out) ⟨rfl,rfl,pA_own 2 out,hol⟩) rfl rfl rfl ?_;rintro _ _ ⟨rfl,rfl⟩)
      · rw [(hsm out hu).1];exact Le.of_eq rfl
      · rw [(hsm out hu).2]
theorem readB_f {s : List UInt8} (h : readB s = false) : ∀ v,readL s = some v → ¬ MayP v:=fun v e=>by rw [readB,e] at h;cases h
theorem readB_n {s : List UInt8} (h : ¬ MayP (readP s)) : ∀ v,readL s = some v → ¬ MayP v:=fun v e=>by rw [readP_of e] at h;exact h
theorem readB_y {s : List UInt8} (h : readB s = true) : readL s = some (readP s):=by
  rcases e : readL s with _|v
  · rw [readB,e] at h;cases h
  · rw [readP_of e]
set_option maxHeartbeats 8000000 in
theorem parse_pc [GlobF Tryd.prog] (hp : PowOK) (he : ErrsOK) (s : List UInt8) (hs : s.length < 268435456) : PC Tryd.prog 41 [str s] (.tu [eV (parseV s),.sc (.int .i64 (parseE s))]):=by
  refine PC.of_body Tryd.func41 Tryd.ntmps41 rfl rfl rfl ?_
  repeat' first
 | (apply p1 (hd:=rfl);case hop=>first|(apply D_move;rfl)|(apply D_assign;rfl)|(apply D_pc (read_pc hp he s hs);rfl;exact .same rfl .nil)|(apply D_pc (may_pc (readP s) (readP_len s hs));rfl;exact .same rfl .nil)|(apply D_pickT;rfl;rfl)|(apply D_pickF;rfl;rfl)|(apply D_ext;rfl;rfl)|(apply D_not;rfl)|(apply D_loadW;rfl;rfl)|exact D_build rfl)
 | refine W_seq ?_
 | refine W_region ?_
 | (refine idC ?_;first|refine c1 rfl ?_|refine cs rfl (fun _=>?_) (fun _=>?_))
 | refine WL_nil ?_
 | (refine idG ?_;first|refine g0f rfl rfl rfl ?_|refine gr rfl rfl ?_|refine gs rfl rfl (fun _=>?_) (fun _=>?_))
 | refine tn ?_
 | refine tr ?_
 | refine W_skip ?_
 | refine W_ret ?_
 | (refine idR ?_;first|refine rL2 rfl (by first|exact trivial|exact ⟨rfl,trivial⟩) (by first|exact ResO.tmp rfl|exact ResO.cellBA rfl rfl rfl|exact ResO.cellB1 rfl rfl rfl|exact ResO.cellEA rfl rfl|exact ResO.cellE1 rfl) (by first|exact ResO.tmp rfl|exact ResO.cellBA rfl rfl rfl|exact ResO.cellB1 rfl rfl rfl|exact ResO.cellEA rfl rfl|exact ResO.cellE1 rfl) ?_ ?_)
 | (refine idA ?_;first|refine m_var rfl rfl rfl rfl rfl rfl rfl ?_|refine m_alloc rfl ?_)
 | (refine idS ?_;refine pS (S_store rfl rfl rfl rfl rfl rfl rfl) ?_)
 | (refine Le.int ?_)
  · rename_i hb
    rw [(parse_no (readB_f hb)).1];exact Le.of_eq rfl
  · rename_i hb
    rw [(parse_no (readB_f hb)).2]
  · rename_i hb hm
    rw [(parse_no (readB_n hm)).1];exact Le.of_eq rfl
  · rename_i hb hm
    rw [(parse_no (readB_n hm)).2]
  · rename_i hb hm
    rw [(parse_ok (readB_y hb) hm).1];exact Le.of_eq rfl
  · rename_i hb hm
    rw [(parse_ok (readB_y hb) hm).2]
end Go.Proofs

namespace Go.Proofs
open Go.AL
attribute [local irreducible] Go.AL.W Go.AL.WL Go.AL.WD Go.AL.POp Go.AL.PPOp Go.AL.POpS Go.AL.PC Go.AL.AC Go.AL.YW Go.AL.Ret Go.AL.Le Go.AL.thn Go.AL.inBlk Go.AL.scp
theorem nib_lo {c : UInt8} (h : digP c) : nibI c = (c.toNat : Int) - 48:=by
  unfold digP at h
  unfold nibI nib;rw [if_pos (by omega)];simp only;omega
theorem nib_hi {c : UInt8} (h1 : 97 ≤ (c.toNat : Int)) (h2 : (c.toNat : Int) ≤ 102) : nibI c = (c.toNat : Int) - 87:=by
  unfold nibI nib;rw [if_neg (by omega),if_pos (by omega)];simp only;omega
theorem nib_no {c : UInt8} (h : ¬ digP c) (h1 : ¬ (97 ≤ (c.toNat : Int) ∧ (c.toNat : Int) ≤ 102)) : nibI c = -1:=by
  unfold digP at h
  unfold nibI nib;rw [if_neg (by omega),if_neg (by omega)]
theorem w8i (z : Int) (h0 : 0 ≤ z) (h : z < 256) : IntKind.u8.wrap z = z:=by
  obtain ⟨m,rfl⟩:=Int.eq_ofNat_of_zero_le h0
  exact w8 m (by omega)
set_option maxHeartbeats 4000000 in
theorem nibble1_pc [GlobF Tryd.prog] (c : UInt8) : PC Tryd.prog 151 [.sc (.int .u8 c.toNat)] (.sc (.int .i64 (nibI c))):=by
  have hb:=c.toNat_lt
  refine PC.of_body Tryd.func151 Tryd.ntmps151 rfl rfl rfl ?_
  repeat' first
 | (apply p1 (hd:=rfl);case hop=>first|(apply D_move;rfl)|(apply D_assign;rfl)|(apply D_pc (digit_pc _);rfl;exact .same rfl .nil)|(apply D_pickT;rfl;rfl)|(apply D_pickF;rfl;rfl)|(apply D_int;rfl;rfl;rfl)|(apply D_conv_int;rfl))
 | refine W_seq ?_
 | refine W_region ?_
 | (refine idC ?_;first|refine c0 rfl ?_|refine cs rfl (fun _=>?_) (fun _=>?_))
 | refine WL_nil ?_
 | (refine idG ?_;first|refine g0t rfl rfl rfl ?_|refine gr rfl rfl ?_|refine gs rfl rfl (fun _=>?_) (fun _=>?_))
 | refine tn ?_
 | refine tr ?_
 | refine W_skip ?_
 | refine W_ret ?_
 | (refine idR ?_;refine ret1 rfl rfl rfl ?_)
 | (refine Le.int ?_)
  · rename_i h
    have h':=h
    unfold digP at h'
    rw [nib_lo h,w8i _ (by omega) (by omega),w64 _ (by omega) (by omega)]
  · rename_i h h1 h2
    rw [nib_hi h1 h2,w8i _ (by omega) (by omega),w64 ((c.toNat : Int) - 97) (by omega) (by omega),w64 _ (by omega) (by omega)];omega
  · rename_i h h1 h2
    rw [nib_no h (by omega)]
  · rename_i h h1
    rw [nib_no h (by omega)]
theorem nDigits_le19 (u : Nat) (h : u < 10000000000000000000) : Lib.nDigits u ≤ 19:=by
  rcases Nat.eq_zero_or_pos u with rfl|h1
  · rw [Lib.nDigits_small (by omega)];omega
  · have:=Lib.numDigits_eq u h1 (by omega)
    obtain ⟨h2,h3⟩:=this
    rcases Nat.lt_or_ge (Lib.l10 (Lib.bitLen u)) 19 with h4|h4
    · split at h2 <;> omega
    · have e : Lib.l10 (Lib.bitLen u) = 19:=by omega
      rw [e,if_neg (by omega)] at h2;omega
theorem num_shape {s : List UInt8} {n : Int} (h : NumP s n) : (∃ u : Nat,n = u ∧ s = Lib.decDigits u) ∨ (∃ u : Nat,n = -(u : Int) ∧ s = 45 :: Lib.decDigits u):=by
  obtain ⟨h0,h1,h⟩:=h
  by_cases hneg : n < 0
  · obtain ⟨u,rfl⟩ : ∃ u : Nat,n = -(u : Int):=⟨n.natAbs,by omega⟩
    rw [Lib.itoa_neg u (by omega)] at h
    exact .inr ⟨u,rfl,h.symm⟩
  · obtain ⟨u,rfl⟩ : ∃ u : Nat,n = u:=⟨n.toNat,by omega⟩
    rw [Lib.itoa_nonneg] at h
    exact .inl ⟨u,rfl,h.symm⟩
theorem num_bad {s d : List UInt8} (hd : s = d ∧ s.head? ≠ some 45 ∨ s = 45 :: d) (hb : d.length < 1 ∨ 19 < d.length ∨ ∃ (i : Nat) (h : i < d.length),¬ digP d[i]) : pB s = false:=by
  have key : ∀ u : Nat,u ≤ 9223372036854775808 → d = Lib.decDigits u → False:=fun u hu e=>by
    subst e
    rcases hb with hb|hb | ⟨i,hi,hb⟩
    · have:=dec_ne u;exact this (List.length_eq_zero_iff.1 (by omega))
    · rw [Lib.decDigits_length] at hb;have:=nDigits_le19 u (by omega);omega
    · have:=dec_digs u _ (List.getElem_mem hi)
      unfold isD at this;unfold digP at hb;omega
  cases hp : pB s with
  | false=>rfl
  | true =>
    exfalso
    obtain ⟨n,hn⟩:=(pB_iff s).1 hp
    have h0:=hn.1
    have h1:=hn.2.1
    rcases num_shape hn with ⟨u,rfl,e⟩ | ⟨u,rfl,e⟩
    · rcases hd with ⟨rfl,_⟩|rfl
      · exact key u (by omega) e
      · exact absurd (dec_digs u 45 (by rw [← e];exact .head _)) (by unfold isD;decide)
    · rcases hd with ⟨rfl,hh⟩|rfl
      · rw [e] at hh;exact hh rfl
      · injection e with _ e
        exact key u (by omega) e
theorem num_val {s d : List UInt8} {m : Int} {sg : Int} (hd : (s = d ∧ s.head? ≠ some 45 ∧ sg = 1) ∨ (s = 45 :: d ∧ sg = -1)) (hm : m = IntKind.i64.wrap (sg * (dval 0 d : Int))) :
    (-9223372036854775808 ≤ m ∧ m ≤ 9223372036854775807) ∧ (sEq (Lib.itoa m) s = pB s) ∧ (pB s = true → m = pN s):=by
  have hr : -9223372036854775808 ≤ m ∧ m ≤ 9223372036854775807:=by
    subst hm
    simp [IntKind.wrap,IntKind.signed,IntKind.bits];omega
  have hv : pB s = true → m = pN s:=fun hp=>by
    obtain ⟨n,hn⟩:=(pB_iff s).1 hp
    rw [pN_of hn]
    have h0:=hn.1
    have h1:=hn.2.1
    rcases num_shape hn with ⟨u,rfl,e⟩ | ⟨u,rfl,e⟩
    · rcases hd with ⟨rfl,_,rfl⟩ | ⟨rfl,_⟩
      · rw [hm,e,dec_val,w64 _ (by omega) (by omega)];omega
      · exact absurd (dec_digs u 45 (by rw [← e];exact .head _)) (by unfold isD;decide)
    · rcases hd with ⟨rfl,hh,_⟩ | ⟨rfl,rfl⟩
      · rw [e] at hh;exact absurd rfl hh
      · injection e with _ e
        rw [hm,e,dec_val,w64 _ (by omega) (by omega)];omega
  refine ⟨hr,?_,hv⟩
  rw [Bool.eq_iff_iff,sEq_t]
  constructor
  · intro e;exact (pB_iff s).2 ⟨m,hr.1,hr.2,e⟩
  · intro hp
    obtain ⟨n,hn⟩:=(pB_iff s).1 hp
    rw [hv hp,pN_of hn];exact hn.2.2
theorem wrap_step (x : Int) (c : Int) : IntKind.i64.wrap (IntKind.i64.wrap (IntKind.i64.wrap x * 10) + c) = IntKind.i64.wrap (x * 10 + c):=by
  simp [IntKind.wrap,IntKind.signed,IntKind.bits];omega
theorem i64_rng (z : Int) : -9223372036854775808 ≤ IntKind.i64.wrap z ∧ IntKind.i64.wrap z ≤ 9223372036854775807:=by
  simp [IntKind.wrap,IntKind.signed,IntKind.bits];omega
def badD (d : List UInt8) : Prop:=d.length < 1 ∨ 19 < d.length ∨ ∃ (i : Nat) (h : i < d.length),¬ digP d[i]
open Classical in
noncomputable def mOf (d : List UInt8) (sg : Int) : Int:=if badD d then 0 else IntKind.i64.wrap (sg * (dval 0 d : Int))
theorem mOf_bad {d : List UInt8} {sg : Int} (h : badD d) : 0 = mOf d sg:=by unfold mOf;rw [if_pos h]
theorem dval_take {d : List UInt8} {i : Nat} (h : i < d.length) (hd : digP d[i]) : ((dval 0 (d.take (i + 1)) : Nat) : Int) = (dval 0 (d.take i) : Nat) * 10 + ((d[i].toNat : Int) - 48):=by
  rw [List.take_succ_eq_append_getElem h,dval_snoc]
  unfold digP at hd
  omega
theorem num_end {s d : List UInt8} {i : Nat} {sg : Int} (hd : (s = d ∧ s.head? ≠ some 45 ∧ sg = 1) ∨ (s = 45 :: d ∧ sg = -1)) (h1 : 1 ≤ d.length) (h2 : d.length ≤ 19) (hz : ∀ (j : Nat) (h : j < d.length),j < i → digP d[j]) (hi : d.length ≤ i) :
    IntKind.i64.wrap (sg * (dval 0 (d.take i) : Int)) = mOf d sg ∧ sEq (Lib.itoa (IntKind.i64.wrap (sg * (dval 0 (d.take i) : Int)))) s = pB s:=by
  have hg : ¬ badD d:=by
    rintro (h|h | ⟨j,hj,h⟩)
    · omega
    · omega
    · exact h (hz j hj (by omega))
  rw [List.take_of_length_le hi]
  exact ⟨by unfold mOf;rw [if_neg hg],(num_val hd rfl).2.1⟩
theorem num_badS {s d : List UInt8} {sg : Int} (hd : (s = d ∧ s.head? ≠ some 45 ∧ sg = 1) ∨ (s = 45 :: d ∧ sg = -1)) (h : badD d) : false = pB s :=
  (num_bad (hd.imp (fun h=>⟨h.1,h.2.1⟩) (fun h=>h.1)) h).symm
theorem mOf_ok {s d : List UInt8} {sg : Int} (hd : (s = d ∧ s.head? ≠ some 45 ∧ sg = 1) ∨ (s = 45 :: d ∧ sg = -1)) (hp : pB s = true) : mOf d sg = pN s:=by
  have hg : ¬ badD d:=fun h=>by have:=num_badS hd h;rw [hp] at this;cases this
  unfold mOf;rw [if_neg hg]
  exact (num_val hd rfl).2.2 hp
theorem digw {c : UInt8} (h : digP c) : IntKind.i64.wrap (IntKind.u8.wrap ((c.toNat : Int) - 48)) = (c.toNat : Int) - 48:=by
  unfold digP at h
  rw [w8i _ (by omega) (by omega),w64 _ (by omega) (by omega)]
theorem stepM {c : UInt8} {x : Int} (h : digP c) : IntKind.i64.wrap (IntKind.i64.wrap (IntKind.i64.wrap x * 10) - IntKind.i64.wrap (IntKind.u8.wrap ((c.toNat : Int) - 48))) = IntKind.i64.wrap (x * 10 + -((c.toNat : Int) - 48)):=by
  rw [digw h,Int.sub_eq_add_neg,wrap_step]
theorem stepP {c : UInt8} {x : Int} (h : digP c) : IntKind.i64.wrap (IntKind.i64.wrap (IntKind.i64.wrap x * 10) + IntKind.i64.wrap (IntKind.u8.wrap ((c.toNat : Int) - 48))) = IntKind.i64.wrap (x * 10 + ((c.toNat : Int) - 48)):=by
  rw [digw h,wrap_step]
theorem dig_all {d : List UInt8} {i : Nat} (h : i < d.length) (hz : ∀ (j : Nat) (h : j < d.length),j < i → digP d[j]) (hd : digP d[i]) : ∀ (j : Nat) (h : j < d.length),j < i + 1 → digP d[j]:=fun j hj hji=>by
  by_cases e : j = i
  · subst e;exact hd
  · exact hz j hj (by omega)
set_option maxHeartbeats 16000000 in
theorem numberA_pc [GlobF Tryd.prog] (r : List UInt8) (hs : r.length < 281474976710656) : PC Tryd.prog 139 [str (45 :: r)] (.tu [.sc (.int .i64 (mOf r (-1))),.sc (.bool (pB (45 :: r)))]):=by
  have hd : (45 :: r = r ∧ (45 :: r).head? ≠ some 45 ∧ (-1 : Int) = 1) ∨ ((45 : UInt8) :: r = 45 :: r ∧ (-1 : Int) = -1):=.inr ⟨rfl,rfl⟩
  refine PC.of_body Tryd.func139 Tryd.ntmps139 rfl rfl rfl ?_
  repeat' first
 | (apply p1 (hd:=rfl);case hop=>first|(apply D_move;rfl)|(apply D_assign;rfl)|(refine D_eqv (D_slSl (l:=45 :: r) (i:=1) rfl rfl (by decide) ?_) (v':=str r) rfl;rw [List.length_cons];omega)|(apply D_pickT;rfl;rfl)|(apply D_pickF;rfl;rfl)|(apply D_int;rfl;rfl;rfl)|(apply D_len_str;rfl)|(apply D_idxSn;rfl;rfl;(first|omega|(simp;done))))
 | refine W_seq ?_
 | refine W_region ?_
 | (refine idC ?_;first|refine c1 rfl ?_|refine c0 rfl ?_|refine cs rfl (fun _=>?_) (fun _=>?_))
 | refine WL_nil ?_
 | (refine idG ?_;first|refine g0t rfl rfl rfl ?_|refine g0f rfl rfl rfl ?_|refine gr rfl rfl ?_|refine gs rfl rfl (fun _=>?_) (fun _=>?_))
 | refine tn ?_
 | refine tr ?_
 | refine W_skip ?_
 | refine W_block ?_
 | refine W_ret ?_
 | (refine idR ?_;refine ret2 rfl rfl rfl rfl ?_ ?_)
 | refine Le.bool ?_
 | (refine Le.int ?_)
  all_goals first
    | exact absurd (show (((45 :: r)[0]'(by simp)).toNat : Int) = 45 from rfl) (by assumption)
    | exact mOf_bad (.inl (by omega))
    | exact num_badS hd (.inl (by omega))
    | exact mOf_bad (.inr (.inl (by omega)))
    | exact num_badS hd (.inr (.inl (by omega)))
    | (exfalso;rename_i hh;rw [List.length_cons] at hh;omega)
    | skip
  rename_i g1 g2
  refine W_loopL (X:=Nat) (fun i=>[(0,str (45 :: r)),(4,str r),(5,.sc (.int .i64 (IntKind.i64.wrap (-1 * (dval 0 (r.take i) : Int))))),(6,.sc (.int .i64 (i : Int)))]) (fun _=>[])
    (fun i=>i ≤ r.length ∧ ∀ (j : Nat) (h : j < r.length),j < i → digP r[j]) (fun i=>r.length - i) 0 ⟨Nat.zero_le _,fun j h h'=>absurd h' (Nat.not_lt_zero _)⟩ ⟨rfl,rfl,rfl,rfl,trivial⟩ rfl ?_
  rintro i ⟨hi,hz⟩
  obtain ⟨e0,e1⟩:=i64_rng (-1 * (dval 0 (r.take i) : Int))
  repeat' first
 | (apply p1 (hd:=rfl);case hop=>first|(apply D_move;rfl)|(apply D_assign;rfl)|(apply D_pc (digit_pc _);rfl;exact .same rfl .nil)|(apply D_pc (digits_pc _ e0 e1);rfl;exact .same rfl .nil)|(apply D_int;rfl;rfl;rfl)|(apply D_len_str;rfl)|(apply D_str;rfl;rfl;rfl)|(apply D_not;rfl)|(apply D_conv_int;rfl)|(apply D_idxSn;rfl;rfl;(first|omega|(simp;done))))
 | refine W_seq ?_
 | refine W_region ?_
 | (refine idC ?_;refine cs rfl (fun _=>?_) (fun _=>?_))
 | refine WL_nil ?_
 | refine tn ?_
 | refine tr ?_
 | refine br ?_
 | refine bn ?_
 | refine te ?_
 | (refine idB ?_;refine bh rfl ?_)
 | refine W_skip ?_
 | refine W_block ?_
 | refine W_exit ?_
 | refine W_ret ?_
 | (refine idR ?_;refine ret2 rfl rfl rfl rfl ?_ ?_)
 | refine Le.bool ?_
 | (refine Le.int ?_)
  · rename_i h1 h2
    exact mOf_bad (.inr (.inr ⟨i,by omega,h2⟩))
  · rename_i h1 h2
    exact num_badS hd (.inr (.inr ⟨i,by omega,h2⟩))
  · exfalso;rename_i hh;rw [List.length_cons] at hh;omega
  · rename_i h1 h2 _
    have h1' : i < r.length:=by omega
    exact ⟨rfl,i + 1,⟨by omega,dig_all h1' hz h2⟩,by omega,⟨rfl,rfl,ieq (by rw [stepM h2,dval_take h1' h2];congr 1;omega),ieq (wsucc i (by omega)),trivial⟩,rfl⟩
  · exact (num_end hd (by omega) (by omega) hz (by omega)).1
  · exact (num_end hd (by omega) (by omega) hz (by omega)).2
theorem hd_no {s : List UInt8} (h : s.head? ≠ some 45) (h0 : 0 < s.length) : (s[0].toNat : Int) ≠ 45:=by
  cases s with
  | nil=>simp at h0
  | cons c r =>
    intro e
    have e' : (c.toNat : Int) = 45:=e
    have : c = 45:=UInt8.toNat_inj.1 (by show c.toNat = 45;omega)
    rw [this] at h;exact h rfl
set_option maxHeartbeats 16000000 in
theorem numberB_pc [GlobF Tryd.prog] (r : List UInt8) (h45 : r.head? ≠ some 45) (hs : r.length < 281474976710656) : PC Tryd.prog 139 [str r] (.tu [.sc (.int .i64 (mOf r 1)),.sc (.bool (pB r))]):=by
  have hd : (r = r ∧ r.head? ≠ some 45 ∧ (1 : Int) = 1) ∨ (r = 45 :: r ∧ (1 : Int) = -1):=.inl ⟨rfl,h45,rfl⟩
  refine PC.of_body Tryd.func139 Tryd.ntmps139 rfl rfl rfl ?_
  repeat' first
 | (apply p1 (hd:=rfl);case hop=>first|(apply D_move;rfl)|(apply D_assign;rfl)|(apply D_pickT;rfl;rfl)|(apply D_pickF;rfl;rfl)|(apply D_int;rfl;rfl;rfl)|(apply D_len_str;rfl)|(apply D_idxS;rfl;rfl;omega;(first|omega|(simp;done)|(simp;omega)))|(apply D_slSl;rfl;rfl;all_goals first|omega|((repeat rw [w64 _ (by omega) (by omega)]);omega)|decide))
 | refine W_seq ?_
 | refine W_region ?_
 | (refine idC ?_;first|refine c1 rfl ?_|refine c0 rfl ?_|refine cs rfl (fun _=>?_) (fun _=>?_))
 | refine WL_nil ?_
 | (refine idG ?_;first|refine g0t rfl rfl rfl ?_|refine g0f rfl rfl rfl ?_|refine gr rfl rfl ?_|refine gs rfl rfl (fun _=>?_) (fun _=>?_))
 | refine tn ?_
 | refine tr ?_
 | refine W_skip ?_
 | refine W_block ?_
 | refine W_ret ?_
 | (refine idR ?_;refine ret2 rfl rfl rfl rfl ?_ ?_)
 | refine Le.bool ?_
 | (refine Le.int ?_)
  all_goals first
    | (exfalso;refine hd_no h45 (by omega) ?_;assumption)
    | exact mOf_bad (.inl (by omega))
    | exact num_badS hd (.inl (by omega))
    | exact mOf_bad (.inr (.inl (by omega)))
    | exact num_badS hd (.inr (.inl (by omega)))
    | (exfalso;omega)
    | skip
  rename_i g1 g2
  refine W_loopL (X:=Nat) (fun i=>[(0,str r),(4,str r),(5,.sc (.int .i64 (IntKind.i64.wrap (1 * (dval 0 (r.take i) : Int))))),(6,.sc (.int .i64 (i : Int)))]) (fun _=>[])
    (fun i=>i ≤ r.length ∧ ∀ (j : Nat) (h : j < r.length),j < i → digP r[j]) (fun i=>r.length - i) 0 ⟨Nat.zero_le _,fun j h h'=>absurd h' (Nat.not_lt_zero _)⟩ ⟨rfl,rfl,rfl,rfl,trivial⟩ rfl ?_
  rintro i ⟨hi,hz⟩
  obtain ⟨e0,e1⟩:=i64_rng (1 * (dval 0 (r.take i) : Int))
  repeat' first
 | (apply p1 (hd:=rfl);case hop=>first|(apply D_move;rfl)|(apply D_assign;rfl)|(apply D_pc (digit_pc _);rfl;exact .same rfl .nil)|(apply D_pc (digits_pc _ e0 e1);rfl;exact .same rfl .nil)|(apply D_int;rfl;rfl;rfl)|(apply D_len_str;rfl)|(apply D_str;rfl;rfl;rfl)|(apply D_not;rfl)|(apply D_conv_int;rfl)|(apply D_idxSn;rfl;rfl;(first|omega|(simp;done))))
 | refine W_seq ?_
 | refine W_region ?_
 | (refine idC ?_;refine cs rfl (fun _=>?_) (fun _=>?_))
 | refine WL_nil ?_
 | refine tn ?_
 | refine tr ?_
 | refine br ?_
 | refine bn ?_
 | refine te ?_
 | (refine idB ?_;refine bh rfl ?_)
 | refine W_skip ?_
 | refine W_block ?_
 | refine W_exit ?_
 | refine W_ret ?_
 | (refine idR ?_;refine ret2 rfl rfl rfl rfl ?_ ?_)
 | refine Le.bool ?_
 | (refine Le.int ?_)
  · rename_i h1 h2
    exact mOf_bad (.inr (.inr ⟨i,by omega,h2⟩))
  · rename_i h1 h2
    exact num_badS hd (.inr (.inr ⟨i,by omega,h2⟩))
  · rename_i h1 h2 _
    have h1' : i < r.length:=by omega
    exact ⟨rfl,i + 1,⟨by omega,dig_all h1' hz h2⟩,by omega,⟨rfl,rfl,ieq (by rw [stepP h2,dval_take h1' h2];congr 1;omega),ieq (wsucc i (by omega)),trivial⟩,rfl⟩
  · exfalso;rename_i hh;exact hh rfl
  · exact (num_end hd (by omega) (by omega) hz (by omega)).1
  · exact (num_end hd (by omega) (by omega) hz (by omega)).2
theorem number1_pc [GlobF Tryd.prog] (s : List UInt8) (hs : s.length < 281474976710656) : ∃ m,PC Tryd.prog 139 [str s] (.tu [.sc (.int .i64 m),.sc (.bool (pB s))]) ∧ (pB s = true → m = pN s):=by
  by_cases h : s.head? = some 45
  · cases s with
    | nil=>cases h
    | cons c r =>
      have : c = 45:=by simpa using h
      subst this
      exact ⟨_,numberA_pc r (by simp at hs;omega),fun hp=>mOf_ok (.inr ⟨rfl,rfl⟩) hp⟩
  · exact ⟨_,numberB_pc s h hs,fun hp=>mOf_ok (.inl ⟨rfl,h,rfl⟩) hp⟩
end Go.Proofs

namespace Go.Proofs
open Go.AL
attribute [local irreducible] Go.AL.W Go.AL.WL Go.AL.WD Go.AL.POp Go.AL.PPOp Go.AL.POpS Go.AL.PC Go.AL.AC Go.AL.YW Go.AL.Ret Go.AL.Le Go.AL.thn Go.AL.inBlk Go.AL.scp
def unhexV (s : List UInt8) : List UInt8:=(unhex s).getD []
theorem unhex_step {s : List UInt8} {i : Nat} (h : i + 1 < s.length) {c : UInt8} (hc : pairO (s[i]'(by omega)) (s[i + 1]'h) = some c) : unhex (s.drop i) = (unhex (s.drop (i + 2))).map (c :: ·):=by
  rw [List.drop_eq_getElem_cons (by omega : i < s.length),List.drop_eq_getElem_cons h,unhex,hc]
theorem unhex_no {s : List UInt8} {i : Nat} (h : i + 1 < s.length) (hc : pairO (s[i]'(by omega)) (s[i + 1]'h) = none) : unhex (s.drop i) = none:=by
  rw [List.drop_eq_getElem_cons (by omega : i < s.length),List.drop_eq_getElem_cons h,unhex,hc]
theorem unhex_odd {s : List UInt8} {i : Nat} (h : i < s.length) (h1 : s.length ≤ i + 1) : unhex (s.drop i) = none:=by
  rw [List.drop_eq_getElem_cons h,List.drop_eq_nil_of_le h1];rfl
theorem uh_noV {s acc : List UInt8} {i : Nat} (hu : unhex s = (unhex (s.drop i)).map (acc ++ ·)) (h : unhex (s.drop i) = none) : [] = unhexV s:=by unfold unhexV;rw [hu,h];rfl
theorem uh_noE {s acc : List UInt8} {i : Nat} (hu : unhex s = (unhex (s.drop i)).map (acc ++ ·)) (h : unhex (s.drop i) = none) : false = (unhex s).isSome:=by rw [hu,h];rfl
theorem pairO_lo1 {a b : UInt8} (h : nibI a < 0) : pairO a b = none:=by
  rcases hx : nib a with _|x
  · exact pairO_n1 hx
  · rw [nibI_some hx] at h;omega
theorem pairO_lo2 {a b : UInt8} (h : nibI b < 0) : pairO a b = none:=by
  unfold pairO
  rcases hy : nib b with _|y
  · cases nib a <;> rfl
  · rw [nibI_some hy] at h;omega
theorem pairO_hi {a b c : UInt8} (h1 : 0 ≤ nibI a) (h2 : 0 ≤ nibI b) (hc : IntKind.u8.wrap (IntKind.i64.wrap (IntKind.i64.wrap (nibI a * 16) + nibI b)) = (c.toNat : Int)) : pairO a b = some c:=by
  unfold pairO
  rcases hx : nib a with _|x
  · rw [nibI_none hx] at h1;omega
  · rcases hy : nib b with _|y
    · rw [nibI_none hy] at h2;omega
    · rw [nibI_some hx,nibI_some hy] at hc
      have lx:=nib_lt hx
      have ly:=nib_lt hy
      rw [w64 ((x : Int) * 16) (by omega) (by omega),w64 _ (by omega) (by omega),w8i _ (by omega) (by omega)] at hc
      simp only [Option.some.injEq]
      apply UInt8.toNat_inj.1
      rw [UInt8.toNat_ofNat'];omega
set_option maxHeartbeats 16000000 in
theorem raw0_pc [GlobF Tryd.prog] (s : List UInt8) (hs : s.length < 268435456) : PC Tryd.prog 140 [str s,.sc (.bool false)] (.tu [str (unhexV s),.sc (.bool (unhex s).isSome)]):=by
  refine PC.of_body Tryd.func140 Tryd.ntmps140 rfl rfl rfl ?_
  repeat' first
 | (apply p1 (hd:=rfl);case hop=>first|(apply D_assign;rfl))
 | refine W_seq ?_
 | refine W_region ?_
 | refine WL_nil ?_
 | refine tn ?_
 | (refine W_block ?_)
  refine W_adopt 6 1 5 rfl ?_
  refine W_loopL (X:=Nat × List UInt8) (fun x=>[(0,str s),(1,.sc (.bool false)),(6,.sl (some 0) 1 (x.2.map byteC)),(7,.sc (.int .i64 (x.1 : Int)))]) (fun x=>[.tail x.2.length 1 5])
    (fun x=>x.1 ≤ s.length ∧ x.2.length ≤ x.1 ∧ unhex s = (unhex (s.drop x.1)).map (x.2 ++ ·)) (fun x=>s.length - x.1) (0,[]) ⟨Nat.zero_le _,Nat.le_refl _,by simp⟩ ⟨rfl,rfl,rfl,rfl,trivial⟩ rfl ?_
  rintro ⟨i,acc⟩ ⟨hi,ha,hu⟩
  simp only at hi ha hu ⊢
  by_cases h2 : i + 1 < s.length
  · obtain ⟨c,hc⟩:=u8_wrap (IntKind.i64.wrap (IntKind.i64.wrap (nibI (s[i]'(by omega)) * 16) + nibI (s[i + 1]'h2)))
    have hw1 : (IntKind.i64.wrap ((i : Int) + 1)).toNat = i + 1:=by rw [w64 _ (by omega) (by omega)];omega
    repeat' first
 | (apply p1 (hd:=rfl);case hop=>first|(apply D_move;rfl)|(apply D_assign;rfl)|(apply D_pc (nibble1_pc _);rfl;exact .same rfl .nil)|(apply D_pickT;rfl;rfl)|(apply D_pickF;rfl;rfl)|(apply D_int;rfl;rfl;rfl)|(apply D_len_str;rfl)|(apply D_conv_int;rfl)|(apply D_b2s;rfl)|(apply D_idxSn;rfl;rfl;(first|omega|(simp;done)))|(apply D_idxS;rfl;rfl;omega;(first|omega|(simp;done)|(simp;omega)))|(apply D_lit;rfl;rfl;rfl;rfl))
 | refine W_seq ?_
 | refine W_region ?_
 | (refine idC ?_;first|refine c1 rfl ?_|refine c0 rfl ?_|refine cs rfl (fun _=>?_) (fun _=>?_))
 | refine WL_nil ?_
 | (refine idG ?_;first|refine g0t rfl rfl rfl ?_|refine g0f rfl rfl rfl ?_|refine g0u rfl rfl rfl ?_|refine gr rfl rfl ?_|refine gs rfl rfl (fun _=>?_) (fun _=>?_))
 | refine tn ?_
 | refine tr ?_
 | refine br ?_
 | refine bn ?_
 | refine te ?_
 | (refine idB ?_;refine bh rfl ?_)
 | refine W_skip ?_
 | refine W_block ?_
 | refine W_exit ?_
 | refine W_ret ?_
 | (refine idR ?_;refine ret2 rfl rfl rfl rfl ?_ ?_)
 | refine Le.bool ?_
 | refine Le.str ?_
 | (refine idAp ?_;refine m_app rfl rfl (by first|rfl|assumption|exact get_set (by assumption)|exact get_set (get_set (by assumption))|exact get_set (get_set (get_set (by assumption)))|((repeat first|assumption|exact get_last|(refine get_last2 ?_;focus (simp;done))|apply get_set|apply get_app|(apply get_ne;focus omega));done)) ?_ rfl rfl ?_ ?_ rfl ?_;(first|rfl|focus (simp only [List.length_map,List.length_append,List.length_cons,List.length_nil];omega)|focus (simp;done)|focus (simp;omega));(first|focus (simp only [List.length_map,List.length_append,List.length_cons,List.length_nil];omega)|focus (simp;done)|focus (simp;omega));(first|focus (simp only [List.length_map,List.length_append,List.length_cons,List.length_nil];omega)|focus (simp;done)|focus (simp;omega)))
    · exfalso;rename_i g;rw [w64 _ (by omega) (by omega)] at g;omega
    · exfalso;rename_i g;rw [w64 _ (by omega) (by omega)] at g;omega
    · rename_i g
      exact uh_noV hu (unhex_no h2 (pairO_lo1 g))
    · rename_i g
      exact uh_noE hu (unhex_no h2 (pairO_lo1 g))
    · rename_i g
      simp only [hw1] at g
      exact uh_noV hu (unhex_no h2 (pairO_lo2 g))
    · rename_i g
      simp only [hw1] at g
      exact uh_noE hu (unhex_no h2 (pairO_lo2 g))
    · rename_i g1 g2
      simp only [hw1] at g2
      have hp:=pairO_hi g1 g2 hc
      have hw2 : IntKind.i64.wrap ((i : Int) + 2) = ((i + 2 : Nat) : Int):=by rw [w64 _ (by omega) (by omega)];omega
      refine ⟨rfl,(i + 2,acc ++ [c]),⟨by omega,by rw [List.length_append];simp only [List.length_cons,List.length_nil];omega,by rw [hu,unhex_step h2 hp];cases unhex (s.drop (i + 2)) <;> simp⟩,by simp only;omega,⟨rfl,rfl,sleq ?_,ieq hw2,trivial⟩,?_⟩
      · rw [List.map_append];simp only [hw1,hc];rfl
      · simp
    all_goals (exfalso;omega)
  · repeat' first
 | (apply p1 (hd:=rfl);case hop=>first|(apply D_move;rfl)|(apply D_assign;rfl)|(apply D_pickF;rfl;rfl)|(apply D_int;rfl;rfl;rfl)|(apply D_len_str;rfl)|(apply D_b2s;rfl)|(apply D_idxSn;rfl;rfl;(first|omega|(simp;done))))
 | refine W_seq ?_
 | refine W_region ?_
 | (refine idC ?_;first|refine c0 rfl ?_|refine cs rfl (fun _=>?_) (fun _=>?_))
 | refine WL_nil ?_
 | (refine idG ?_;refine g0t rfl rfl rfl ?_)
 | refine tn ?_
 | refine tr ?_
 | refine br ?_
 | refine te ?_
 | (refine idB ?_;refine bh rfl ?_)
 | refine W_skip ?_
 | refine W_block ?_
 | refine W_exit ?_
 | refine W_ret ?_
 | (refine idR ?_;refine ret2 rfl rfl rfl rfl ?_ ?_)
 | refine Le.bool ?_
 | (refine Le.str ?_)
    all_goals first
      | (rename_i g _;exact uh_noV hu (unhex_odd (by omega) (by omega)))
      | (rename_i g _;exact uh_noE hu (unhex_odd (by omega) (by omega)))
      | (exfalso;rename_i g;rw [w64 _ (by omega) (by omega)] at g;omega)
      | skip
    all_goals (rw [List.drop_eq_nil_of_le (by omega)] at hu;simp [unhex] at hu)
    · unfold unhexV;rw [hu];rfl
    · rw [hu];rfl
set_option maxHeartbeats 16000000 in
theorem raw1_pc [GlobF Tryd.prog] (s : List UInt8) (hs : s.length < 268435456) : PC Tryd.prog 140 [str s,.sc (.bool true)] (.tu [str (unqV s),.sc (.bool (unq s).isSome)]):=by
  refine PC.of_body Tryd.func140 Tryd.ntmps140 rfl rfl rfl ?_
  repeat' first
 | (apply p1 (hd:=rfl);case hop=>first|(apply D_assign;rfl))
 | refine W_seq ?_
 | refine W_region ?_
 | refine WL_nil ?_
 | refine tn ?_
 | (refine W_block ?_)
  refine W_adopt 6 1 5 rfl ?_
  refine W_loopL (X:=Nat × List UInt8) (fun x=>[(0,str s),(1,.sc (.bool true)),(6,.sl (some 0) 1 (x.2.map byteC)),(7,.sc (.int .i64 (x.1 : Int)))]) (fun x=>[.tail x.2.length 1 5])
    (fun x=>x.1 ≤ s.length ∧ x.2.length ≤ x.1 ∧ unq s = (unq (s.drop x.1)).map (x.2 ++ ·)) (fun x=>s.length - x.1) (0,[]) ⟨Nat.zero_le _,Nat.le_refl _,by simp⟩ ⟨rfl,rfl,rfl,rfl,trivial⟩ rfl ?_
  rintro ⟨i,acc⟩ ⟨hi,ha,hu⟩
  simp only at hi ha hu ⊢
  by_cases h2 : i + 2 < s.length
  · obtain ⟨c,hc⟩:=u8_wrap (IntKind.i64.wrap (IntKind.i64.wrap (nibI (s[i + 1]'(by omega)) * 16) + nibI (s[i + 2]'h2)))
    have hw1 : IntKind.i64.wrap ((i : Int) + 1) = ((i + 1 : Nat) : Int):=by rw [w64 _ (by omega) (by omega)];omega
    have hw2 : IntKind.i64.wrap (((i + 1 : Nat) : Int) + 1) = ((i + 2 : Nat) : Int):=by rw [w64 _ (by omega) (by omega)];omega
    have hw3 : IntKind.i64.wrap (((i + 1 : Nat) : Int) + 2) = ((i + 3 : Nat) : Int):=by rw [w64 _ (by omega) (by omega)];omega
    have hp2 : pairS (s.drop (i + 1)) = pairO (s[i + 1]'(by omega)) (s[i + 2]'h2):=by
      rw [List.drop_eq_getElem_cons (by omega : i + 1 < s.length),List.drop_eq_getElem_cons h2];rfl
    repeat' first
 | (apply p1 (hd:=rfl);case hop=>first|(apply D_move;rfl)|(apply D_assign;rfl)|exact D_sc (D_int rfl rfl rfl) (congrArg _ hw1)|exact D_sc (D_int rfl rfl rfl) (congrArg _ hw2)|exact D_sc (D_int rfl rfl rfl) (congrArg _ hw3)|exact D_sc (D_conv_int rfl) (congrArg _ hc)|(apply D_pc (plain1_pc _);rfl;exact .same rfl .nil)|(apply D_pc (nibble1_pc _);rfl;exact .same rfl .nil)|(apply D_pickT;rfl;rfl)|(apply D_pickF;rfl;rfl)|(apply D_int;rfl;rfl;rfl)|(apply D_len_str;rfl)|(apply D_b2s;rfl)|(apply D_idxSn;rfl;rfl;(first|omega|(simp;done)))|(apply D_lit;rfl;rfl;rfl;rfl))
 | refine W_seq ?_
 | refine W_region ?_
 | (refine idC ?_;first|refine c1 rfl ?_|refine cs rfl (fun _=>?_) (fun _=>?_))
 | refine WL_nil ?_
 | (refine idG ?_;first|refine g0f rfl rfl rfl ?_|refine g0u rfl rfl rfl ?_|refine gr rfl rfl ?_|refine gs rfl rfl (fun _=>?_) (fun _=>?_))
 | refine tn ?_
 | refine tr ?_
 | refine br ?_
 | refine bn ?_
 | refine te ?_
 | (refine idB ?_;refine bh rfl ?_)
 | refine W_skip ?_
 | refine W_block ?_
 | refine W_exit ?_
 | refine W_ret ?_
 | (refine idR ?_;refine ret2 rfl rfl rfl rfl ?_ ?_)
 | refine Le.bool ?_
 | refine Le.str ?_
 | (refine idAp ?_;refine m_app rfl rfl (by first|rfl|assumption|exact get_set (by assumption)|exact get_set (get_set (by assumption))|exact get_set (get_set (get_set (by assumption)))|((repeat first|assumption|exact get_last|(refine get_last2 ?_;focus (simp;done))|apply get_set|apply get_app|(apply get_ne;focus omega));done)) ?_ rfl rfl ?_ ?_ rfl ?_;(first|rfl|focus (simp only [List.length_map,List.length_append,List.length_cons,List.length_nil];omega)|focus (simp;done)|focus (simp;omega));(first|focus (simp only [List.length_map,List.length_append,List.length_cons,List.length_nil];omega)|focus (simp;done)|focus (simp;omega));(first|focus (simp only [List.length_map,List.length_append,List.length_cons,List.length_nil];omega)|focus (simp;done)|focus (simp;omega)))
    · rename_i hpl
      exact ⟨rfl,(i + 1,acc ++ [s[i]]),⟨by omega,by rw [List.length_append];simp only [List.length_cons,List.length_nil];omega,by rw [hu,unq_step1 (by omega) hpl];cases unq (s.drop (i + 1)) <;> simp⟩,by simp only;omega,⟨rfl,rfl,sleq (by rw [List.map_append];rfl),rfl,trivial⟩,by simp⟩
    · rename_i hpl h92
      exact unq_noV hu (unq_stepN (by omega) hpl (.inl (by intro e;rw [e] at h92;exact h92 rfl)))
    · rename_i hpl h92
      exact unq_noE hu (unq_stepN (by omega) hpl (.inl (by intro e;rw [e] at h92;exact h92 rfl)))
    · exfalso;omega
    · exfalso;omega
    · rename_i hpl h92 _ g
      exact unq_noV hu (unq_stepN (by omega) hpl (.inr (.inl (hp2.trans (pairO_lo1 g)))))
    · rename_i hpl h92 _ g
      exact unq_noE hu (unq_stepN (by omega) hpl (.inr (.inl (hp2.trans (pairO_lo1 g)))))
    · rename_i hpl h92 _ _ g
      exact unq_noV hu (unq_stepN (by omega) hpl (.inr (.inl (hp2.trans (pairO_lo2 g)))))
    · rename_i hpl h92 _ _ g
      exact unq_noE hu (unq_stepN (by omega) hpl (.inr (.inl (hp2.trans (pairO_lo2 g)))))
    · rename_i hpl h92 _ g1 g2 hq
      exact unq_noV hu (unq_stepN (by omega) hpl (.inr (.inr ⟨c,hp2.trans (pairO_hi g1 g2 hc),hq⟩)))
    · rename_i hpl h92 _ g1 g2 hq
      exact unq_noE hu (unq_stepN (by omega) hpl (.inr (.inr ⟨c,hp2.trans (pairO_hi g1 g2 hc),hq⟩)))
    · rename_i hpl h92 _ g1 g2 hq
      have e92 : s[i] = 92:=UInt8.toNat_inj.1 (by show s[i].toNat = 92;omega)
      exact ⟨rfl,(i + 3,acc ++ [c]),⟨by omega,by rw [List.length_append];simp only [List.length_cons,List.length_nil];omega,by rw [hu,unq_step2 (by omega) hpl e92 (hp2.trans (pairO_hi g1 g2 hc)) hq];cases unq (s.drop (i + 3)) <;> simp⟩,by simp only;omega,⟨rfl,rfl,sleq (by rw [List.map_append];rfl),rfl,trivial⟩,by simp⟩
    all_goals (exfalso;omega)
  · have hw1 : IntKind.i64.wrap ((i : Int) + 1) = ((i + 1 : Nat) : Int):=by
      by_cases hh : i < 9223372036854775807
      · rw [w64 _ (by omega) (by omega)];omega
      · exact absurd hi (by omega)
    have hw3 : IntKind.i64.wrap (((i + 1 : Nat) : Int) + 2) = ((i + 3 : Nat) : Int):=by rw [w64 _ (by omega) (by omega)];omega
    have hps : pairS (s.drop (i + 1)) = none:=pairS_short (by rw [List.length_drop];omega)
    repeat' first
 | (apply p1 (hd:=rfl);case hop=>first|(apply D_move;rfl)|(apply D_assign;rfl)|exact D_sc (D_int rfl rfl rfl) (congrArg _ hw1)|exact D_sc (D_int rfl rfl rfl) (congrArg _ hw3)|(apply D_pc (plain1_pc _);rfl;exact .same rfl .nil)|(apply D_pickT;rfl;rfl)|(apply D_int;rfl;rfl;rfl)|(apply D_len_str;rfl)|(apply D_b2s;rfl)|(apply D_idxSn;rfl;rfl;(first|omega|(simp;done)))|(apply D_lit;rfl;rfl;rfl;rfl))
 | refine W_seq ?_
 | refine W_region ?_
 | (refine idC ?_;first|refine c1 rfl ?_|refine cs rfl (fun _=>?_) (fun _=>?_))
 | refine WL_nil ?_
 | (refine idG ?_;refine gr rfl rfl ?_)
 | refine tn ?_
 | refine tr ?_
 | refine br ?_
 | refine te ?_
 | (refine idB ?_;refine bh rfl ?_)
 | refine W_skip ?_
 | refine W_block ?_
 | refine W_exit ?_
 | refine W_ret ?_
 | (refine idR ?_;refine ret2 rfl rfl rfl rfl ?_ ?_)
 | refine Le.bool ?_
 | refine Le.str ?_
 | (refine idAp ?_;refine m_app rfl rfl (by first|rfl|assumption|exact get_set (by assumption)|exact get_set (get_set (by assumption))|exact get_set (get_set (get_set (by assumption)))|((repeat first|assumption|exact get_last|(refine get_last2 ?_;focus (simp;done))|apply get_set|apply get_app|(apply get_ne;focus omega));done)) ?_ rfl rfl ?_ ?_ rfl ?_;(first|rfl|focus (simp only [List.length_map,List.length_append,List.length_cons,List.length_nil];omega)|focus (simp;done)|focus (simp;omega));(first|focus (simp only [List.length_map,List.length_append,List.length_cons,List.length_nil];omega)|focus (simp;done)|focus (simp;omega));(first|focus (simp only [List.length_map,List.length_append,List.length_cons,List.length_nil];omega)|focus (simp;done)|focus (simp;omega)))
    · rename_i hlt hpl
      exact ⟨rfl,(i + 1,acc ++ [s[i]]),⟨by omega,by rw [List.length_append];simp only [List.length_cons,List.length_nil];omega,by rw [hu,unq_step1 (by omega) hpl];cases unq (s.drop (i + 1)) <;> simp⟩,by simp only;omega,⟨rfl,rfl,sleq (by rw [List.map_append];rfl),rfl,trivial⟩,by simp⟩
    · rename_i hlt hpl h92
      exact unq_noV hu (unq_stepN (by omega) hpl (.inl (by intro e;rw [e] at h92;exact h92 rfl)))
    · rename_i hlt hpl h92
      exact unq_noE hu (unq_stepN (by omega) hpl (.inl (by intro e;rw [e] at h92;exact h92 rfl)))
    · rename_i hlt hpl h92 _
      exact unq_noV hu (unq_stepN (by omega) hpl (.inr (.inl hps)))
    · rename_i hlt hpl h92 _
      exact unq_noE hu (unq_stepN (by omega) hpl (.inr (.inl hps)))
    · exfalso;omega
    all_goals (rw [List.drop_eq_nil_of_le (by omega)] at hu;simp [unq] at hu)
    · unfold unqV;rw [hu];rfl
    · rw [hu];rfl
end Go.Proofs

namespace Go.Proofs
open Go.AL
attribute [local irreducible] Go.AL.W Go.AL.WL Go.AL.WD Go.AL.POp Go.AL.PPOp Go.AL.POpS Go.AL.PC Go.AL.AC Go.AL.YW Go.AL.Ret Go.AL.Le Go.AL.thn Go.AL.inBlk Go.AL.scp
theorem parse_of {s : List UInt8} {v : Val} (hb : readB s = true) (hv : readP s = v) : (MayP v → parseV s = v ∧ parseE s = 0) ∧ (¬ MayP v → parseV s = zV ∧ parseE s = 11):=by
  have h:=readB_y hb
  rw [hv] at h
  exact ⟨fun hm=>parse_ok h hm,fun hm=>parse_no fun u e=>by rw [h] at e;cases e;exact hm⟩
theorem pB_head {c : UInt8} {r : List UInt8} (h : pB (c :: r) = true) : hd0 c r = 45 ∨ (48 ≤ hd0 c r ∧ hd0 c r ≤ 57):=by
  obtain ⟨n,hn⟩:=(pB_iff _).1 h
  obtain ⟨d,t,e,hd⟩:=itoa_head n
  rw [hn.2.2] at e
  injection e with e _
  show (c.toNat : Int) = 45 ∨ (48 ≤ (c.toNat : Int) ∧ (c.toNat : Int) ≤ 57)
  subst e
  rcases hd with hd|rfl
  · unfold isD at hd;omega
  · exact .inl rfl
theorem def_case {c : UInt8} {r : List UInt8} (h3 : hd0 c r ≠ 64) (h4 : hd0 c r ≠ 33) (h5 : hd0 c r ≠ 58) (h6 : hd0 c r ≠ 35) (hq : ¬ (hd0 c r = 34 ∧ sufB r = true)) (ht : c :: r ≠ [116,114,117,101]) (hf : c :: r ≠ [102,97,108,115,101]) :
    readB (c :: r) = pB (c :: r) ∧ (pB (c :: r) = true → readP (c :: r) = ⟨1,pN (c :: r),[]⟩):=by
  have hno : hd0 c r = 116 ∨ hd0 c r = 102 ∨ hd0 c r = 34 → pB (c :: r) = false:=fun h=>by
    cases hp : pB (c :: r) with
    | false=>rfl
    | true=>have:=pB_head hp;omega
  by_cases h1 : hd0 c r = 116 ∨ hd0 c r = 102
  · have e:=rdB_tf h1 ht
    have e2 : sEq (c :: r) [102,97,108,115,101] = false:=by
      cases h : sEq (c :: r) [102,97,108,115,101] with
      | false=>rfl
      | true=>rw [sEq_t] at h;exact absurd h hf
    have e3:=hno (by omega)
    rw [← e,e2,e3]
    exact ⟨rfl,fun h=>by cases h⟩
  · by_cases h7 : hd0 c r = 34
    · have e:=(rd_34 (by omega) (by omega) h3 h4 h5 h6 h7).2
      have e3:=hno (by omega)
      have e4 : sufB r = false:=by
        cases h : sufB r with
        | false=>rfl
        | true=>exact absurd ⟨h7,h⟩ hq
      rw [e,e3,e4]
      exact ⟨rfl,fun h=>by cases h⟩
    · have e:=rd_n (c:=c) (r:=r) (by omega) (by omega) h3 h4 h5 h6 h7
      exact ⟨e.2,fun _=>e.1⟩
theorem last_q {c : UInt8} {r : List UInt8} (h : 0 < r.length) : ((((c :: r)[r.length]'(by simp)).toNat : Int) = 34) ↔ sufB r = true:=by
  rw [sufB_t]
  have hne : r ≠ []:=by intro e;rw [e] at h;simp at h
  have e : (c :: r)[r.length]'(by simp) = r.getLast hne:=by
    rw [List.getLast_eq_getElem]
    obtain ⟨m,hm⟩ : ∃ m,r.length = m + 1:=⟨r.length - 1,by omega⟩
    simp only [hm,List.getElem_cons_succ,Nat.add_sub_cancel]
  rw [e,List.getLast?_eq_some_getLast hne]
  constructor
  · intro h;rw [show r.getLast hne = 34 from UInt8.toNat_inj.1 (by show _ = 34;omega)]
  · intro h;rw [Option.some.inj h];rfl
theorem sl_q (c : UInt8) (r : List UInt8) : ((c :: r).take r.length).drop 1 = r.dropLast:=by
  rw [List.dropLast_eq_take]
  cases r with
  | nil=>rfl
  | cons d t=>simp
theorem unhexV_len (s : List UInt8) : (unhexV s).length ≤ s.length:=by
  unfold unhexV
  rcases h : unhex s with _|l
  · simp
  · have h1:=hexs_len l
    rw [unhex_inv _ _ h] at h1
    simp only [Option.getD_some];omega
theorem gt0 {n : Nat} (h : 0 < n) : Value.bool (iLt 0 (n : Int)) = .bool true:=by rw [(iLt_t _ _).mpr (by omega)]
theorem gt1 {n : Nat} (h : 1 < n) : Value.bool (iLt 1 (n : Int)) = .bool true:=by rw [(iLt_t _ _).mpr (by omega)]
theorem p_true : parseV [116,114,117,101] = ⟨2,1,[]⟩ ∧ parseE [116,114,117,101] = 0:=parse_ok (by simp [readL]) (by simp [MayP])
theorem p_false : parseV [102,97,108,115,101] = ⟨2,0,[]⟩ ∧ parseE [102,97,108,115,101] = 0:=parse_ok (by simp [readL]) (by simp [MayP])
theorem lf {s : List UInt8} {b : Bool} (hB : readB s = b) (hb : b = false) : parseV s = zV ∧ parseE s = 11:=parse_no (readB_f (hB.trans hb))
theorem ly {s : List UInt8} {b : Bool} {v : Val} (hB : readB s = b) (hb : b = true) (hv : readP s = v) (hm : MayP v) : parseV s = v ∧ parseE s = 0:=(parse_of (hB.trans hb) hv).1 hm
theorem ln {s : List UInt8} {b : Bool} {v : Val} (hB : readB s = b) (hb : b = true) (hv : readP s = v) (hm : ¬ MayP v) : parseV s = zV ∧ parseE s = 11:=(parse_of (hB.trans hb) hv).2 hm
set_option maxHeartbeats 32000000 in
theorem parse1_pc [GlobF Tryd.prog] (s : List UInt8) (hs : s.length < 268435456) : PC Tryd.prog 119 [str s] (.tu [eV (parseV s),.sc (.int .i64 (parseE s))]):=by
  obtain ⟨m2,hn2,hm2⟩:=number1_pc s (by omega)
  cases s with
  | nil =>
    refine PC.of_body Tryd.func119 Tryd.ntmps119 rfl rfl rfl ?_
    repeat' first
 | (apply p1 (hd:=rfl);case hop=>first|(apply D_move;rfl)|(apply D_assign;rfl)|exact D_sc (v':=.bool false) (D_int rfl rfl rfl) (by rw [(iLt_f _ _).mpr (by decide)])|(apply D_pc hn2;rfl;exact .same rfl .nil)|(apply D_pc (may1_pc ⟨1,m2,[]⟩ (by show 0 < _;decide));rfl;exact .same rfl .nil)|(apply D_pickT;rfl;rfl)|(apply D_pickF;rfl;rfl)|(apply D_len_str;rfl)|(apply D_str;rfl;rfl;rfl)|(apply D_ext;rfl;rfl)|(apply D_not;rfl)|exact D_build rfl)
 | refine W_seq ?_
 | refine W_region ?_
 | (refine idC ?_;first|refine c1 rfl ?_|refine c0 rfl ?_|refine cs rfl (fun _=>?_) (fun _=>?_))
 | refine WL_nil ?_
 | (refine idG ?_;first|refine g0t rfl rfl rfl ?_|refine g0f rfl rfl rfl ?_|refine gr rfl rfl ?_|refine gs rfl rfl (fun _=>?_) (fun _=>?_))
 | refine tn ?_
 | refine tr ?_
 | refine br ?_
 | refine bn ?_
 | refine W_skip ?_
 | refine W_block ?_
 | refine W_ret ?_
 | (refine idR ?_;first|refine rL2 rfl (by first|exact trivial|exact ⟨rfl,trivial⟩) (by first|exact ResO.tmp rfl|exact ResO.cellBA rfl rfl rfl|exact ResO.cellB1 rfl rfl rfl|exact ResO.cellEA rfl rfl|exact ResO.cellE1 rfl) (by first|exact ResO.tmp rfl|exact ResO.cellBA rfl rfl rfl|exact ResO.cellB1 rfl rfl rfl|exact ResO.cellEA rfl rfl|exact ResO.cellE1 rfl) ?_ ?_)
 | (refine idLd ?_;refine p1L (D_loadBA rfl rfl rfl) rfl ?_)
 | (refine idA ?_;refine m_alloc rfl ?_)
 | (refine idS ?_;refine pS (S_store rfl rfl rfl rfl rfl rfl rfl) ?_)
 | (refine Le.int ?_)
    all_goals first
      | contradiction
      | (rw [(parse_no (s:=[]) (fun v h=>by cases h)).1];exact Le.of_eq rfl)
      | (rw [(parse_no (s:=[]) (fun v h=>by cases h)).2];done)
      | (exfalso;rename_i h _;obtain ⟨n,hn⟩:=(pB_iff _).1 h;obtain ⟨d,t,e,_⟩:=itoa_head n;rw [hn.2.2] at e;cases e;done)
      | skip
  | cons c r =>
    have hr : r.length < 268435456:=by simp at hs;omega
    obtain ⟨m1,hn1,hm1⟩:=number1_pc r (by omega)
    have hlw : IntKind.i64.wrap (((c :: r).length : Int) - 1) = ((r.length : Nat) : Int):=by rw [List.length_cons,w64 _ (by omega) (by omega)];omega
    have hq1:=unhexV_len r
    have hq2:=unq_len r.dropLast
    rw [List.length_dropLast] at hq2
    have hdl : r.dropLast.length < 268435456:=by rw [List.length_dropLast];omega
    have hg0 : Value.bool (iLt 0 ((c :: r).length : Int)) = .bool true:=gt0 (by simp)
    have B64 : hd0 c r = 64 → readB (c :: r) = pB r:=fun h=>(rd_64 (by omega) (by omega) h).2
    have P64 : hd0 c r = 64 → pB r = true → readP (c :: r) = ⟨5,m1,[]⟩:=fun h hb=>by rw [(rd_64 (by omega) (by omega) h).1,hm1 hb]
    have B33 : hd0 c r = 33 → readB (c :: r) = pB r:=fun h=>(rd_33 (by omega) (by omega) (by omega) h).2
    have P33 : hd0 c r = 33 → pB r = true → readP (c :: r) = ⟨6,m1,[]⟩:=fun h hb=>by rw [(rd_33 (by omega) (by omega) (by omega) h).1,hm1 hb]
    have B58 : hd0 c r = 58 → readB (c :: r) = true:=fun h=>(rd_58 (by omega) (by omega) (by omega) (by omega) h).2
    have P58 : hd0 c r = 58 → readP (c :: r) = ⟨7,0,r⟩:=fun h=>(rd_58 (by omega) (by omega) (by omega) (by omega) h).1
    have B35 : hd0 c r = 35 → readB (c :: r) = (unhex r).isSome:=fun h=>by
      obtain ⟨h1,h2⟩:=rd_35 (c:=c) (r:=r) (by omega) (by omega) (by omega) (by omega) (by omega) h
      rcases e : unhex r with _|l
      · exact (h1 e).2
      · exact (h2 l e).2
    have P35 : hd0 c r = 35 → (unhex r).isSome = true → readP (c :: r) = ⟨4,0,unhexV r⟩:=fun h hb=>by
      obtain ⟨h1,h2⟩:=rd_35 (c:=c) (r:=r) (by omega) (by omega) (by omega) (by omega) (by omega) h
      obtain ⟨l,e⟩:=isSome_t hb
      rw [(h2 l e).1];unfold unhexV;rw [e];rfl
    have B34 : hd0 c r = 34 → sufB r = true → readB (c :: r) = (unq r.dropLast).isSome:=fun h hq=>by
      rw [(rd_34 (by omega) (by omega) (by omega) (by omega) (by omega) (by omega) h).2,hq];unfold cutL;rw [if_pos hq];rfl
    have P34 : hd0 c r = 34 → sufB r = true → readP (c :: r) = ⟨3,0,unqV r.dropLast⟩:=fun h hq=>by
      rw [(rd_34 (by omega) (by omega) (by omega) (by omega) (by omega) (by omega) h).1];unfold cutL;rw [if_pos hq]
    have Bd : ¬ (hd0 c r = 34 ∧ sufB r = true) → hd0 c r ≠ 64 → hd0 c r ≠ 33 → hd0 c r ≠ 58 → hd0 c r ≠ 35 → c :: r ≠ [116,114,117,101] → c :: r ≠ [102,97,108,115,101] → readB (c :: r) = pB (c :: r):=fun hq h3 h4 h5 h6 ht hf=>(def_case h3 h4 h5 h6 hq ht hf).1
    have Pd : ¬ (hd0 c r = 34 ∧ sufB r = true) → hd0 c r ≠ 64 → hd0 c r ≠ 33 → hd0 c r ≠ 58 → hd0 c r ≠ 35 → c :: r ≠ [116,114,117,101] → c :: r ≠ [102,97,108,115,101] → pB (c :: r) = true → readP (c :: r) = ⟨1,m2,[]⟩:=fun hq h3 h4 h5 h6 ht hf hp=>by rw [(def_case h3 h4 h5 h6 hq ht hf).2 hp,hm2 hp]
    by_cases hr0 : 0 < r.length
    · have hg1 : Value.bool (iLt 1 ((c :: r).length : Int)) = .bool true:=gt1 (by simp;omega)
      refine PC.of_body Tryd.func119 Tryd.ntmps119 rfl rfl rfl ?_
      repeat' first
 | (apply p1 (hd:=rfl);case hop=>first|(apply D_move;rfl)|(apply D_assign;rfl)|(refine D_eqv (D_slSl (l:=c :: r) (i:=1) rfl rfl (by decide) ?_) (v':=str r) rfl;rw [List.length_cons];omega)|(refine D_eqv (D_slS (l:=c :: r) (i:=1) (j:=((r.length : Nat) : Int)) rfl rfl rfl (by decide) ?_ ?_) (congrArg str (sl_q c r));all_goals first|omega|(rw [List.length_cons];omega))|exact D_sc (D_int rfl rfl rfl) (congrArg _ hlw)|exact D_sc (D_int rfl rfl rfl) hg0|exact D_sc (D_int rfl rfl rfl) hg1|(apply D_pc hn1;rfl;exact .same rfl .nil)|(apply D_pc hn2;rfl;exact .same rfl .nil)|(apply D_pc (raw0_pc r hr);rfl;exact .same rfl (.same rfl .nil))|(apply D_pc (raw1_pc r.dropLast hdl);rfl;exact .same rfl (.same rfl .nil))|(apply D_pc (may1_pc ⟨1,m2,[]⟩ (by show 0 < _;decide));rfl;exact .same rfl .nil)|(apply D_pc (may1_pc ⟨5,m1,[]⟩ (by show 0 < _;decide));rfl;exact .same rfl .nil)|(apply D_pc (may1_pc ⟨6,m1,[]⟩ (by show 0 < _;decide));rfl;exact .same rfl .nil)|(apply D_pc (may1_pc ⟨7,0,r⟩ (by show r.length < _;omega));rfl;exact .same rfl .nil)|(apply D_pc (may1_pc ⟨4,0,unhexV r⟩ (by show (unhexV r).length < _;omega));rfl;exact .same rfl .nil)|(apply D_pc (may1_pc ⟨3,0,unqV r.dropLast⟩ (by show (unqV r.dropLast).length < _;omega));rfl;exact .same rfl .nil)|(apply D_pickT;rfl;rfl)|(apply D_pickF;rfl;rfl)|(apply D_int;rfl;rfl;rfl)|(apply D_len_str;rfl)|(apply D_str;rfl;rfl;rfl)|(apply D_ext;rfl;rfl)|(apply D_not;rfl)|(apply D_idxSn;rfl;rfl;(first|omega|(simp;done)))|exact D_build rfl)
 | refine W_seq ?_
 | refine W_region ?_
 | (refine idC ?_;first|refine c1 rfl ?_|refine c0 rfl ?_|refine cs rfl (fun _=>?_) (fun _=>?_))
 | refine WL_nil ?_
 | (refine idG ?_;first|refine g0t rfl rfl rfl ?_|refine g0f rfl rfl rfl ?_|refine gr rfl rfl ?_|refine gs rfl rfl (fun _=>?_) (fun _=>?_))
 | refine tn ?_
 | refine tr ?_
 | refine br ?_
 | refine bn ?_
 | refine W_skip ?_
 | refine W_block ?_
 | refine W_ret ?_
 | (refine idR ?_;first|refine rL2 rfl (by first|exact trivial|exact ⟨rfl,trivial⟩) (by first|exact ResO.tmp rfl|exact ResO.cellBA rfl rfl rfl|exact ResO.cellB1 rfl rfl rfl|exact ResO.cellEA rfl rfl|exact ResO.cellE1 rfl) (by first|exact ResO.tmp rfl|exact ResO.cellBA rfl rfl rfl|exact ResO.cellB1 rfl rfl rfl|exact ResO.cellEA rfl rfl|exact ResO.cellE1 rfl) ?_ ?_)
 | (refine idLd ?_;refine p1L (D_loadBA rfl rfl rfl) rfl ?_)
 | (refine idA ?_;refine m_alloc rfl ?_)
 | (refine idS ?_;refine pS (S_store rfl rfl rfl rfl rfl rfl rfl) ?_)
 | (refine Le.int ?_)
      all_goals first
        | (rename_i h;rw [h,p_true.1];exact Le.of_eq rfl)
        | (rename_i h;rw [h,p_true.2];done)
        | (rename_i h;rw [h,p_false.1];exact Le.of_eq rfl)
        | (rename_i h;rw [h,p_false.2];done)
        | contradiction
        | (rw [(lf (B64 (by assumption)) (by assumption)).1];exact Le.of_eq rfl)
        | (rw [(lf (B64 (by assumption)) (by assumption)).2];done)
        | (rw [(ly (B64 (by assumption)) (by first|rfl|assumption) (P64 (by assumption) (by assumption)) (by assumption)).1];exact Le.of_eq rfl)
        | (rw [(ly (B64 (by assumption)) (by first|rfl|assumption) (P64 (by assumption) (by assumption)) (by assumption)).2];done)
        | (rw [(ln (B64 (by assumption)) (by first|rfl|assumption) (P64 (by assumption) (by assumption)) (by assumption)).1];exact Le.of_eq rfl)
        | (rw [(ln (B64 (by assumption)) (by first|rfl|assumption) (P64 (by assumption) (by assumption)) (by assumption)).2];done)
        | (rw [(lf (B33 (by assumption)) (by assumption)).1];exact Le.of_eq rfl)
        | (rw [(lf (B33 (by assumption)) (by assumption)).2];done)
        | (rw [(ly (B33 (by assumption)) (by first|rfl|assumption) (P33 (by assumption) (by assumption)) (by assumption)).1];exact Le.of_eq rfl)
        | (rw [(ly (B33 (by assumption)) (by first|rfl|assumption) (P33 (by assumption) (by assumption)) (by assumption)).2];done)
        | (rw [(ln (B33 (by assumption)) (by first|rfl|assumption) (P33 (by assumption) (by assumption)) (by assumption)).1];exact Le.of_eq rfl)
        | (rw [(ln (B33 (by assumption)) (by first|rfl|assumption) (P33 (by assumption) (by assumption)) (by assumption)).2];done)
        | (rw [(lf (B58 (by assumption)) (by assumption)).1];exact Le.of_eq rfl)
        | (rw [(lf (B58 (by assumption)) (by assumption)).2];done)
        | (rw [(ly (B58 (by assumption)) (by first|rfl|assumption) (P58 (by assumption)) (by assumption)).1];exact Le.of_eq rfl)
        | (rw [(ly (B58 (by assumption)) (by first|rfl|assumption) (P58 (by assumption)) (by assumption)).2];done)
        | (rw [(ln (B58 (by assumption)) (by first|rfl|assumption) (P58 (by assumption)) (by assumption)).1];exact Le.of_eq rfl)
        | (rw [(ln (B58 (by assumption)) (by first|rfl|assumption) (P58 (by assumption)) (by assumption)).2];done)
        | (rw [(lf (B35 (by assumption)) (by assumption)).1];exact Le.of_eq rfl)
        | (rw [(lf (B35 (by assumption)) (by assumption)).2];done)
        | (rw [(ly (B35 (by assumption)) (by first|rfl|assumption) (P35 (by assumption) (by assumption)) (by assumption)).1];exact Le.of_eq rfl)
        | (rw [(ly (B35 (by assumption)) (by first|rfl|assumption) (P35 (by assumption) (by assumption)) (by assumption)).2];done)
        | (rw [(ln (B35 (by assumption)) (by first|rfl|assumption) (P35 (by assumption) (by assumption)) (by assumption)).1];exact Le.of_eq rfl)
        | (rw [(ln (B35 (by assumption)) (by first|rfl|assumption) (P35 (by assumption) (by assumption)) (by assumption)).2];done)
        | (rw [(lf (B34 (by assumption) ((last_q hr0).1 (by assumption))) (by assumption)).1];exact Le.of_eq rfl)
        | (rw [(lf (B34 (by assumption) ((last_q hr0).1 (by assumption))) (by assumption)).2];done)
        | (rw [(ly (B34 (by assumption) ((last_q hr0).1 (by assumption))) (by first|rfl|assumption) (P34 (by assumption) ((last_q hr0).1 (by assumption))) (by assumption)).1];exact Le.of_eq rfl)
        | (rw [(ly (B34 (by assumption) ((last_q hr0).1 (by assumption))) (by first|rfl|assumption) (P34 (by assumption) ((last_q hr0).1 (by assumption))) (by assumption)).2];done)
        | (rw [(ln (B34 (by assumption) ((last_q hr0).1 (by assumption))) (by first|rfl|assumption) (P34 (by assumption) ((last_q hr0).1 (by assumption))) (by assumption)).1];exact Le.of_eq rfl)
        | (rw [(ln (B34 (by assumption) ((last_q hr0).1 (by assumption))) (by first|rfl|assumption) (P34 (by assumption) ((last_q hr0).1 (by assumption))) (by assumption)).2];done)
        | (rw [(lf (Bd (fun h=>absurd h.1 (by assumption)) (by assumption) (by assumption) (by assumption) (by assumption) (by assumption) (by assumption)) (by assumption)).1];exact Le.of_eq rfl)
        | (rw [(lf (Bd (fun h=>absurd h.1 (by assumption)) (by assumption) (by assumption) (by assumption) (by assumption) (by assumption) (by assumption)) (by assumption)).2];done)
        | (rw [(ly (Bd (fun h=>absurd h.1 (by assumption)) (by assumption) (by assumption) (by assumption) (by assumption) (by assumption) (by assumption)) (by first|rfl|assumption) (Pd (fun h=>absurd h.1 (by assumption)) (by assumption) (by assumption) (by assumption) (by assumption) (by assumption) (by assumption) (by assumption)) (by assumption)).1];exact Le.of_eq rfl)
        | (rw [(ly (Bd (fun h=>absurd h.1 (by assumption)) (by assumption) (by assumption) (by assumption) (by assumption) (by assumption) (by assumption)) (by first|rfl|assumption) (Pd (fun h=>absurd h.1 (by assumption)) (by assumption) (by assumption) (by assumption) (by assumption) (by assumption) (by assumption) (by assumption)) (by assumption)).2];done)
        | (rw [(ln (Bd (fun h=>absurd h.1 (by assumption)) (by assumption) (by assumption) (by assumption) (by assumption) (by assumption) (by assumption)) (by first|rfl|assumption) (Pd (fun h=>absurd h.1 (by assumption)) (by assumption) (by assumption) (by assumption) (by assumption) (by assumption) (by assumption) (by assumption)) (by assumption)).1];exact Le.of_eq rfl)
        | (rw [(ln (Bd (fun h=>absurd h.1 (by assumption)) (by assumption) (by assumption) (by assumption) (by assumption) (by assumption) (by assumption)) (by first|rfl|assumption) (Pd (fun h=>absurd h.1 (by assumption)) (by assumption) (by assumption) (by assumption) (by assumption) (by assumption) (by assumption) (by assumption)) (by assumption)).2];done)
        | (rw [(lf (Bd (fun h=>absurd ((last_q hr0).2 h.2) (by assumption)) (by assumption) (by assumption) (by assumption) (by assumption) (by assumption) (by assumption)) (by assumption)).1];exact Le.of_eq rfl)
        | (rw [(lf (Bd (fun h=>absurd ((last_q hr0).2 h.2) (by assumption)) (by assumption) (by assumption) (by assumption) (by assumption) (by assumption) (by assumption)) (by assumption)).2];done)
        | (rw [(ly (Bd (fun h=>absurd ((last_q hr0).2 h.2) (by assumption)) (by assumption) (by assumption) (by assumption) (by assumption) (by assumption) (by assumption)) (by first|rfl|assumption) (Pd (fun h=>absurd ((last_q hr0).2 h.2) (by assumption)) (by assumption) (by assumption) (by assumption) (by assumption) (by assumption) (by assumption) (by assumption)) (by assumption)).1];exact Le.of_eq rfl)
        | (rw [(ly (Bd (fun h=>absurd ((last_q hr0).2 h.2) (by assumption)) (by assumption) (by assumption) (by assumption) (by assumption) (by assumption) (by assumption)) (by first|rfl|assumption) (Pd (fun h=>absurd ((last_q hr0).2 h.2) (by assumption)) (by assumption) (by assumption) (by assumption) (by assumption) (by assumption) (by assumption) (by assumption)) (by assumption)).2];done)
        | (rw [(ln (Bd (fun h=>absurd ((last_q hr0).2 h.2) (by assumption)) (by assumption) (by assumption) (by assumption) (by assumption) (by assumption) (by assumption)) (by first|rfl|assumption) (Pd (fun h=>absurd ((last_q hr0).2 h.2) (by assumption)) (by assumption) (by assumption) (by assumption) (by assumption) (by assumption) (by assumption) (by assumption)) (by assumption)).1];exact Le.of_eq rfl)
        | (rw [(ln (Bd (fun h=>absurd ((last_q hr0).2 h.2) (by assumption)) (by assumption) (by assumption) (by assumption) (by assumption) (by assumption) (by assumption)) (by first|rfl|assumption) (Pd (fun h=>absurd ((last_q hr0).2 h.2) (by assumption)) (by assumption) (by assumption) (by assumption) (by assumption) (by assumption) (by assumption) (by assumption)) (by assumption)).2];done)
    · have hg1 : Value.bool (iLt 1 ((c :: r).length : Int)) = .bool false:=by rw [(iLt_f _ _).mpr (by rw [List.length_cons];omega)]
      have hq : ¬ (hd0 c r = 34 ∧ sufB r = true):=fun h=>by
        have:=h.2
        rw [sufB_t,List.length_eq_zero_iff.1 (by omega : r.length = 0)] at this
        cases this
      refine PC.of_body Tryd.func119 Tryd.ntmps119 rfl rfl rfl ?_
      repeat' first
 | (apply p1 (hd:=rfl);case hop=>first|(apply D_move;rfl)|(apply D_assign;rfl)|(refine D_eqv (D_slSl (l:=c :: r) (i:=1) rfl rfl (by decide) ?_) (v':=str r) rfl;rw [List.length_cons];omega)|exact D_sc (D_int rfl rfl rfl) hg0|exact D_sc (D_int rfl rfl rfl) hg1|(apply D_pc hn1;rfl;exact .same rfl .nil)|(apply D_pc hn2;rfl;exact .same rfl .nil)|(apply D_pc (raw0_pc r hr);rfl;exact .same rfl (.same rfl .nil))|(apply D_pc (may1_pc ⟨1,m2,[]⟩ (by show 0 < _;decide));rfl;exact .same rfl .nil)|(apply D_pc (may1_pc ⟨5,m1,[]⟩ (by show 0 < _;decide));rfl;exact .same rfl .nil)|(apply D_pc (may1_pc ⟨6,m1,[]⟩ (by show 0 < _;decide));rfl;exact .same rfl .nil)|(apply D_pc (may1_pc ⟨7,0,r⟩ (by show r.length < _;omega));rfl;exact .same rfl .nil)|(apply D_pc (may1_pc ⟨4,0,unhexV r⟩ (by show (unhexV r).length < _;omega));rfl;exact .same rfl .nil)|(apply D_pickT;rfl;rfl)|(apply D_pickF;rfl;rfl)|(apply D_int;rfl;rfl;rfl)|(apply D_len_str;rfl)|(apply D_str;rfl;rfl;rfl)|(apply D_ext;rfl;rfl)|(apply D_not;rfl)|(apply D_idxSn;rfl;rfl;(first|omega|(simp;done)))|exact D_build rfl)
 | refine W_seq ?_
 | refine W_region ?_
 | (refine idC ?_;first|refine c1 rfl ?_|refine c0 rfl ?_|refine cs rfl (fun _=>?_) (fun _=>?_))
 | refine WL_nil ?_
 | (refine idG ?_;first|refine g0t rfl rfl rfl ?_|refine g0f rfl rfl rfl ?_|refine gr rfl rfl ?_|refine gs rfl rfl (fun _=>?_) (fun _=>?_))
 | refine tn ?_
 | refine tr ?_
 | refine br ?_
 | refine bn ?_
 | refine W_skip ?_
 | refine W_block ?_
 | refine W_ret ?_
 | (refine idR ?_;first|refine rL2 rfl (by first|exact trivial|exact ⟨rfl,trivial⟩) (by first|exact ResO.tmp rfl|exact ResO.cellBA rfl rfl rfl|exact ResO.cellB1 rfl rfl rfl|exact ResO.cellEA rfl rfl|exact ResO.cellE1 rfl) (by first|exact ResO.tmp rfl|exact ResO.cellBA rfl rfl rfl|exact ResO.cellB1 rfl rfl rfl|exact ResO.cellEA rfl rfl|exact ResO.cellE1 rfl) ?_ ?_)
 | (refine idLd ?_;refine p1L (D_loadBA rfl rfl rfl) rfl ?_)
 | (refine idA ?_;refine m_alloc rfl ?_)
 | (refine idS ?_;refine pS (S_store rfl rfl rfl rfl rfl rfl rfl) ?_)
 | (refine Le.int ?_)
      all_goals first
        | (rename_i h;rw [h,p_true.1];exact Le.of_eq rfl)
        | (rename_i h;rw [h,p_true.2];done)
        | (rename_i h;rw [h,p_false.1];exact Le.of_eq rfl)
        | (rename_i h;rw [h,p_false.2];done)
        | contradiction
        | (rw [(lf (B64 (by assumption)) (by assumption)).1];exact Le.of_eq rfl)
        | (rw [(lf (B64 (by assumption)) (by assumption)).2];done)
        | (rw [(ly (B64 (by assumption)) (by first|rfl|assumption) (P64 (by assumption) (by assumption)) (by assumption)).1];exact Le.of_eq rfl)
        | (rw [(ly (B64 (by assumption)) (by first|rfl|assumption) (P64 (by assumption) (by assumption)) (by assumption)).2];done)
        | (rw [(ln (B64 (by assumption)) (by first|rfl|assumption) (P64 (by assumption) (by assumption)) (by assumption)).1];exact Le.of_eq rfl)
        | (rw [(ln (B64 (by assumption)) (by first|rfl|assumption) (P64 (by assumption) (by assumption)) (by assumption)).2];done)
        | (rw [(lf (B33 (by assumption)) (by assumption)).1];exact Le.of_eq rfl)
        | (rw [(lf (B33 (by assumption)) (by assumption)).2];done)
        | (rw [(ly (B33 (by assumption)) (by first|rfl|assumption) (P33 (by assumption) (by assumption)) (by assumption)).1];exact Le.of_eq rfl)
        | (rw [(ly (B33 (by assumption)) (by first|rfl|assumption) (P33 (by assumption) (by assumption)) (by assumption)).2];done)
        | (rw [(ln (B33 (by assumption)) (by first|rfl|assumption) (P33 (by assumption) (by assumption)) (by assumption)).1];exact Le.of_eq rfl)
        | (rw [(ln (B33 (by assumption)) (by first|rfl|assumption) (P33 (by assumption) (by assumption)) (by assumption)).2];done)
        | (rw [(lf (B58 (by assumption)) (by assumption)).1];exact Le.of_eq rfl)
        | (rw [(lf (B58 (by assumption)) (by assumption)).2];done)
        | (rw [(ly (B58 (by assumption)) (by first|rfl|assumption) (P58 (by assumption)) (by assumption)).1];exact Le.of_eq rfl)
        | (rw [(ly (B58 (by assumption)) (by first|rfl|assumption) (P58 (by assumption)) (by assumption)).2];done)
        | (rw [(ln (B58 (by assumption)) (by first|rfl|assumption) (P58 (by assumption)) (by assumption)).1];exact Le.of_eq rfl)
        | (rw [(ln (B58 (by assumption)) (by first|rfl|assumption) (P58 (by assumption)) (by assumption)).2];done)
        | (rw [(lf (B35 (by assumption)) (by assumption)).1];exact Le.of_eq rfl)
        | (rw [(lf (B35 (by assumption)) (by assumption)).2];done)
        | (rw [(ly (B35 (by assumption)) (by first|rfl|assumption) (P35 (by assumption) (by assumption)) (by assumption)).1];exact Le.of_eq rfl)
        | (rw [(ly (B35 (by assumption)) (by first|rfl|assumption) (P35 (by assumption) (by assumption)) (by assumption)).2];done)
        | (rw [(ln (B35 (by assumption)) (by first|rfl|assumption) (P35 (by assumption) (by assumption)) (by assumption)).1];exact Le.of_eq rfl)
        | (rw [(ln (B35 (by assumption)) (by first|rfl|assumption) (P35 (by assumption) (by assumption)) (by assumption)).2];done)
        | (rw [(lf (Bd hq (by assumption) (by assumption) (by assumption) (by assumption) (by assumption) (by assumption)) (by assumption)).1];exact Le.of_eq rfl)
        | (rw [(lf (Bd hq (by assumption) (by assumption) (by assumption) (by assumption) (by assumption) (by assumption)) (by assumption)).2];done)
        | (rw [(ly (Bd hq (by assumption) (by assumption) (by assumption) (by assumption) (by assumption) (by assumption)) (by first|rfl|assumption) (Pd hq (by assumption) (by assumption) (by assumption) (by assumption) (by assumption) (by assumption) (by assumption)) (by assumption)).1];exact Le.of_eq rfl)
        | (rw [(ly (Bd hq (by assumption) (by assumption) (by assumption) (by assumption) (by assumption) (by assumption)) (by first|rfl|assumption) (Pd hq (by assumption) (by assumption) (by assumption) (by assumption) (by assumption) (by assumption) (by assumption)) (by assumption)).2];done)
        | (rw [(ln (Bd hq (by assumption) (by assumption) (by assumption) (by assumption) (by assumption) (by assumption)) (by first|rfl|assumption) (Pd hq (by assumption) (by assumption) (by assumption) (by assumption) (by assumption) (by assumption) (by assumption)) (by assumption)).1];exact Le.of_eq rfl)
        | (rw [(ln (Bd hq (by assumption) (by assumption) (by assumption) (by assumption) (by assumption) (by assumption)) (by first|rfl|assumption) (Pd hq (by assumption) (by assumption) (by assumption) (by assumption) (by assumption) (by assumption) (by assumption)) (by assumption)).2];done)
end Go.Proofs
