/- Contracts of the program's readers of values' texts: value.Parse. -/
import Derived.Test.YtnjnjbombcefcaaDoorCT4
set_option linter.all false
namespace Go.Proofs
open Go.AL
attribute [local irreducible] Go.AL.W Go.AL.WL Go.AL.WD Go.AL.POp Go.AL.PPOp Go.AL.POpS Go.AL.PC Go.AL.AC Go.AL.YW Go.AL.Ret Go.AL.Le Go.AL.thn Go.AL.inBlk Go.AL.scp
noncomputable def readP : List UInt8 → Val
  | []=>zV
  | c :: r=>if c = 116 ∨ c = 102 then ⟨2,IntKind.i64.wrap (5 - ((c :: r).length : Int)),[]⟩ else if c = 64 then ⟨5,pN r,[]⟩ else if c = 33 then ⟨6,pN r,[]⟩ else if c = 58 then ⟨7,0,r⟩
    else if c = 35 then (match unhex r with
      | some l=>⟨4,0,l⟩
      | none=>zV) else if c = 34 then ⟨3,0,unqV (cutL r)⟩ else ⟨1,pN (c :: r),[]⟩
theorem numO_some {s : List UInt8} {n : Int} (h : numO s = some n) : pN s = n:=by
  unfold numO at h
  split at h
  · cases h;rfl
  · cases h
theorem numO_is (s : List UInt8) : (numO s).isSome = pB s:=by unfold numO;cases pB s <;> simp
theorem readP_of {s : List UInt8} {v : Val} (h : readL s = some v) : readP s = v:=by
  cases s with
  | nil=>simp [readL] at h
  | cons c r =>
    rw [readL] at h
    unfold readP
    simp only
    split at h
    · rename_i h1
      rw [if_pos h1]
      split at h
      · rename_i e;cases h;injection e with _ e;subst e;rfl
      · split at h
        · rename_i e;cases h;injection e with _ e;subst e;rfl
        · cases h
    · rename_i h1
      rw [if_neg h1]
      split at h
      · rename_i e;rw [if_pos e]
        obtain ⟨n,hn,rfl⟩:=Option.map_eq_some_iff.1 h
        rw [numO_some hn]
      · rename_i e;rw [if_neg e]
        split at h
        · rename_i e;rw [if_pos e]
          obtain ⟨n,hn,rfl⟩:=Option.map_eq_some_iff.1 h
          rw [numO_some hn]
        · rename_i e;rw [if_neg e]
          split at h
          · rename_i e;rw [if_pos e];cases h;rfl
          · rename_i e;rw [if_neg e]
            split at h
            · rename_i e;rw [if_pos e]
              obtain ⟨n,hn,rfl⟩:=Option.map_eq_some_iff.1 h
              rw [hn]
            · rename_i e;rw [if_neg e]
              split at h
              · rename_i e;rw [if_pos e]
                split at h
                · rename_i hl
                  obtain ⟨n,hn,rfl⟩:=Option.map_eq_some_iff.1 h
                  unfold cutL unqV
                  rw [if_pos (sufB_t.2 hl),hn];rfl
                · cases h
              · rename_i e;rw [if_neg e]
                obtain ⟨n,hn,rfl⟩:=Option.map_eq_some_iff.1 h
                rw [numO_some hn]
noncomputable def readB (s : List UInt8) : Bool:=(readL s).isSome
theorem u8nT {c : UInt8} {r : List UInt8} {k : Nat} (hk : k < 256) : (((c :: r)[0]'(by simp)).toNat : Int) = (k : Int) ↔ c = UInt8.ofNat k:=by
  show (c.toNat : Int) = (k : Int) ↔ c = UInt8.ofNat k
  constructor
  · intro h
    apply UInt8.toNat_inj.1
    rw [UInt8.toNat_ofNat'];omega
  · rintro rfl
    rw [UInt8.toNat_ofNat'];omega
abbrev hd0 (c : UInt8) (r : List UInt8) : Int:=(((c :: r)[0]'(by simp)).toNat : Int)
theorem p116 {c : UInt8} {r : List UInt8} (h : hd0 c r = 116) : c = 116:=(u8nT (k:=116) (by decide)).1 h
theorem p102 {c : UInt8} {r : List UInt8} (h : hd0 c r = 102) : c = 102:=(u8nT (k:=102) (by decide)).1 h
theorem p64 {c : UInt8} {r : List UInt8} (h : hd0 c r = 64) : c = 64:=(u8nT (k:=64) (by decide)).1 h
theorem p33 {c : UInt8} {r : List UInt8} (h : hd0 c r = 33) : c = 33:=(u8nT (k:=33) (by decide)).1 h
theorem p58 {c : UInt8} {r : List UInt8} (h : hd0 c r = 58) : c = 58:=(u8nT (k:=58) (by decide)).1 h
theorem p35 {c : UInt8} {r : List UInt8} (h : hd0 c r = 35) : c = 35:=(u8nT (k:=35) (by decide)).1 h
theorem p34 {c : UInt8} {r : List UInt8} (h : hd0 c r = 34) : c = 34:=(u8nT (k:=34) (by decide)).1 h
theorem rd_tf {c : UInt8} {r : List UInt8} (h : hd0 c r = 116 ∨ hd0 c r = 102) : readP (c :: r) = ⟨2,IntKind.i64.wrap (5 - ((c :: r).length : Int)),[]⟩:=by
  unfold readP;simp only;rw [if_pos (h.imp p116 p102)]
theorem rdB_tf {c : UInt8} {r : List UInt8} (h : hd0 c r = 116 ∨ hd0 c r = 102) (hn : c :: r ≠ [116,114,117,101]) : sEq (c :: r) [102,97,108,115,101] = readB (c :: r):=by
  unfold readB readL;simp only;rw [if_pos (h.imp p116 p102),if_neg hn]
  rw [Bool.eq_iff_iff,sEq_t]
  split <;> simp_all
theorem rdB_t {c : UInt8} {r : List UInt8} (h : c :: r = [116,114,117,101]) : true = readB (c :: r):=by rw [h];simp [readB,readL]
theorem ntf {c : UInt8} {r : List UInt8} (h1 : hd0 c r ≠ 116) (h2 : hd0 c r ≠ 102) : ¬ (c = 116 ∨ c = 102):=by
  rintro (h|h)
  · exact h1 ((u8nT (k:=116) (by decide)).2 h)
  · exact h2 ((u8nT (k:=102) (by decide)).2 h)
theorem rd_64 {c : UInt8} {r : List UInt8} (h1 : hd0 c r ≠ 116) (h2 : hd0 c r ≠ 102) (h : hd0 c r = 64) : readP (c :: r) = ⟨5,pN r,[]⟩ ∧ readB (c :: r) = pB r:=by
  unfold readB readL readP;simp only [if_neg (ntf h1 h2),if_pos (p64 h),Option.isSome_map,numO_is,and_self]
theorem n64 {c : UInt8} {r : List UInt8} (h : hd0 c r ≠ 64) : ¬ c = 64:=fun e=>h ((u8nT (k:=64) (by decide)).2 e)
theorem n33 {c : UInt8} {r : List UInt8} (h : hd0 c r ≠ 33) : ¬ c = 33:=fun e=>h ((u8nT (k:=33) (by decide)).2 e)
theorem n58 {c : UInt8} {r : List UInt8} (h : hd0 c r ≠ 58) : ¬ c = 58:=fun e=>h ((u8nT (k:=58) (by decide)).2 e)
theorem n35 {c : UInt8} {r : List UInt8} (h : hd0 c r ≠ 35) : ¬ c = 35:=fun e=>h ((u8nT (k:=35) (by decide)).2 e)
theorem n34 {c : UInt8} {r : List UInt8} (h : hd0 c r ≠ 34) : ¬ c = 34:=fun e=>h ((u8nT (k:=34) (by decide)).2 e)
theorem rd_33 {c : UInt8} {r : List UInt8} (h1 : hd0 c r ≠ 116) (h2 : hd0 c r ≠ 102) (h3 : hd0 c r ≠ 64) (h : hd0 c r = 33) : readP (c :: r) = ⟨6,pN r,[]⟩ ∧ readB (c :: r) = pB r:=by
  unfold readB readL readP;simp only [if_neg (ntf h1 h2),if_neg (n64 h3),if_pos (p33 h),Option.isSome_map,numO_is,and_self]
theorem rd_58 {c : UInt8} {r : List UInt8} (h1 : hd0 c r ≠ 116) (h2 : hd0 c r ≠ 102) (h3 : hd0 c r ≠ 64) (h4 : hd0 c r ≠ 33) (h : hd0 c r = 58) : readP (c :: r) = ⟨7,0,r⟩ ∧ readB (c :: r) = true:=by
  unfold readB readL readP;simp only [if_neg (ntf h1 h2),if_neg (n64 h3),if_neg (n33 h4),if_pos (p58 h),Option.isSome_some,and_self]
theorem rd_35 {c : UInt8} {r : List UInt8} (h1 : hd0 c r ≠ 116) (h2 : hd0 c r ≠ 102) (h3 : hd0 c r ≠ 64) (h4 : hd0 c r ≠ 33) (h5 : hd0 c r ≠ 58) (h : hd0 c r = 35) :
    (unhex r = none → readP (c :: r) = zV ∧ readB (c :: r) = false) ∧ ∀ l,unhex r = some l → readP (c :: r) = ⟨4,0,l⟩ ∧ readB (c :: r) = true:=by
  unfold readB readL readP;simp only [if_neg (ntf h1 h2),if_neg (n64 h3),if_neg (n33 h4),if_neg (n58 h5),if_pos (p35 h),Option.isSome_map]
  refine ⟨fun hu=>?_,fun l hu=>?_⟩ <;> rw [hu] <;> simp
theorem rd_34 {c : UInt8} {r : List UInt8} (h1 : hd0 c r ≠ 116) (h2 : hd0 c r ≠ 102) (h3 : hd0 c r ≠ 64) (h4 : hd0 c r ≠ 33) (h5 : hd0 c r ≠ 58) (h6 : hd0 c r ≠ 35) (h : hd0 c r = 34) :
    readP (c :: r) = ⟨3,0,unqV (cutL r)⟩ ∧ readB (c :: r) = (sufB r && (unq (cutL r)).isSome):=by
  unfold readB readL readP;simp only [if_neg (ntf h1 h2),if_neg (n64 h3),if_neg (n33 h4),if_neg (n58 h5),if_neg (n35 h6),if_pos (p34 h),true_and]
  unfold cutL
  cases hb : sufB r with
  | true=>simp [sufB_t.1 hb]
  | false=>simp [show ¬ r.getLast? = some 34 from fun e=>by rw [sufB_t.2 e] at hb;cases hb]
theorem rd_n {c : UInt8} {r : List UInt8} (h1 : hd0 c r ≠ 116) (h2 : hd0 c r ≠ 102) (h3 : hd0 c r ≠ 64) (h4 : hd0 c r ≠ 33) (h5 : hd0 c r ≠ 58) (h6 : hd0 c r ≠ 35) (h7 : hd0 c r ≠ 34) :
    readP (c :: r) = ⟨1,pN (c :: r),[]⟩ ∧ readB (c :: r) = pB (c :: r):=by
  unfold readB readL readP;simp only [if_neg (ntf h1 h2),if_neg (n64 h3),if_neg (n33 h4),if_neg (n58 h5),if_neg (n35 h6),if_neg (n34 h7),Option.isSome_map,numO_is,and_self]
theorem cutL_len (s : List UInt8) : (cutL s).length ≤ s.length:=by unfold cutL;split <;> simp
def pA (r : Nat) : List UInt8 → AV
  | []=>.sc (.pointer none)
  | _ :: _=>.bp r 0
theorem pA_own (r : Nat) (l : List UInt8) : ownP r (pA r l):=by cases l;exact .inl rfl;exact .inr rfl
theorem pA_snoc (r : Nat) (l : List UInt8) (c : UInt8) : pA r (l ++ [c]) = .bp r 0:=by cases l <;> rfl
theorem unq_len (s : List UInt8) : (unqV s).length ≤ s.length:=by
  unfold unqV
  rcases h : unq s with _|l
  · simp
  · have:=unq_inv _ s l (Nat.le_refl _) h
    have h2 : ∀ l : List UInt8,l.length ≤ (l.flatMap escL).length:=fun l=>by
      induction l with
      | nil=>simp
      | cons c l ih =>
        rw [List.flatMap_cons,List.length_append,List.length_cons]
        have : 1 ≤ (escL c).length:=by unfold escL;split <;> simp
        omega
    have h3:=h2 l
    rw [this] at h3
    exact h3
theorem readP_len (s : List UInt8) (hs : s.length < 268435456) : (readP s).s.length < 9223372036854775808:=by
  cases s with
  | nil=>simp [readP]
  | cons c r =>
    have hr : r.length < 268435456:=by simp at hs;omega
    unfold readP;simp only
    split
    · simp
    · split
      · simp
      · split
        · simp
        · split
          · simp only;omega
          · split
            · rcases h : unhex r with _|l
              · simp
              · have h1:=hexs_len l
                rw [unhex_inv _ _ h] at h1
                simp only;omega
            · split
              · have h1:=unq_len (cutL r)
                have h2:=cutL_len r
                simp only;omega
              · simp
set_option maxHeartbeats 32000000 in
theorem read_pc [GlobF Tryd.prog] (hp : PowOK) (he : ErrsOK) (s : List UInt8) (hs : s.length < 268435456) : PC Tryd.prog 85 [str s] (.tu [eV (readP s),.sc (.bool (readB s))]):=by
  cases s with
  | nil =>
    refine PC.of_body Tryd.func85 Tryd.ntmps85 rfl rfl rfl ?_
    repeat' first
 | (apply p1 (hd:=rfl);case hop=>first|(apply D_move;rfl)|(apply D_str;rfl;rfl;rfl)|exact D_build rfl)
 | refine W_seq ?_
 | refine W_region ?_
 | (refine idC ?_;refine cs rfl (fun _=>?_) (fun _=>?_))
 | refine WL_nil ?_
 | refine tn ?_
 | refine tr ?_
 | refine W_skip ?_
 | refine W_ret ?_
 | (refine idR ?_;first|refine rL2 rfl (by first|exact trivial|exact ⟨rfl,trivial⟩) (by first|exact ResO.tmp rfl|exact ResO.cellBA rfl rfl rfl|exact ResO.cellB1 rfl rfl rfl|exact ResO.cellEA rfl rfl|exact ResO.cellE1 rfl) (by first|exact ResO.tmp rfl|exact ResO.cellBA rfl rfl rfl|exact ResO.cellB1 rfl rfl rfl|exact ResO.cellEA rfl rfl|exact ResO.cellE1 rfl) ?_ ?_)
 | (refine idA ?_;refine m_alloc rfl ?_)
 | (refine idS ?_;refine pS (S_store rfl rfl rfl rfl rfl rfl rfl) ?_)
 | (refine Le.bool ?_)
    · exact Le.of_eq rfl
    · simp [readB,readL]
    all_goals contradiction
  | cons c r =>
    have hr : r.length < 268435456:=by simp at hs;omega
    have hcl:=cutL_len r
    refine PC.of_body Tryd.func85 Tryd.ntmps85 rfl rfl rfl ?_
    repeat' first
 | (refine m_allocT rfl ?_;refine WL_adoptC 2 1 1 5 rfl rfl ?_)
 | (apply p1 (hd:=rfl);case hop=>first|(apply D_move;rfl)|(apply D_assign;rfl)|(refine D_eqv (D_slSl (l:=c :: r) (i:=1) rfl rfl (by decide) ?_) (v':=str r) rfl;rw [List.length_cons];omega)|(apply D_pc (number_pc hp he r (by omega));rfl;exact .same rfl .nil)|(apply D_pc (number_pc hp he (c :: r) (by omega));rfl;exact .same rfl .nil)|(apply D_pc (cut_pc r (by omega));rfl;exact .same rfl (.same rfl .nil))|(apply D_pc (quoted_pc (cutL r) (by omega));rfl;exact .same rfl .nil)|(apply D_pickT;rfl;rfl)|(apply D_pickF;rfl;rfl)|(apply D_int;rfl;rfl;rfl)|(apply D_len_str;rfl)|(apply D_str;rfl;rfl;rfl)|(apply D_ext;rfl;rfl)|(apply D_idxSn;rfl;rfl;(first|omega|(simp;done)))|exact D_build rfl)
 | refine W_seq ?_
 | refine W_region ?_
 | (refine idC ?_;first|refine c1 rfl ?_|refine cs rfl (fun _=>?_) (fun _=>?_))
 | refine WL_nil ?_
 | (refine idG ?_;first|refine g0t rfl rfl rfl ?_|refine g0f rfl rfl rfl ?_|refine gr rfl rfl ?_|refine gs rfl rfl (fun _=>?_) (fun _=>?_))
 | refine tn ?_
 | refine tr ?_
 | refine br ?_
 | refine bn ?_
 | refine W_skip ?_
 | refine W_block ?_
 | refine W_ret ?_
 | (refine idR ?_;first|refine rL2 rfl (by first|exact trivial|exact ⟨rfl,trivial⟩) (by first|exact ResO.tmp rfl|exact ResO.cellBA rfl rfl rfl|exact ResO.cellB1 rfl rfl rfl|exact ResO.cellEA rfl rfl|exact ResO.cellE1 rfl) (by first|exact ResO.tmp rfl|exact ResO.cellBA rfl rfl rfl|exact ResO.cellB1 rfl rfl rfl|exact ResO.cellEA rfl rfl|exact ResO.cellE1 rfl) ?_ ?_)
 | (refine idA ?_;refine m_alloc rfl ?_)
 | (refine idS ?_;refine pS (S_store rfl rfl rfl rfl rfl rfl rfl) ?_)
 | refine Le.bool ?_
 | (refine m_call (d:=65) (pairs_ac r) rfl rfl rfl ?_;rintro _ _ ⟨rfl,rfl⟩)
    all_goals first
      | contradiction
      | (rw [rd_tf (.inl (by assumption))];exact Le.of_eq rfl)
      | (rw [rd_tf (.inr (by assumption))];exact Le.of_eq rfl)
      | (rw [(rd_64 (by assumption) (by assumption) (by assumption)).1];exact Le.of_eq rfl)
      | (rw [(rd_64 (by assumption) (by assumption) (by assumption)).2];done)
      | (rw [(rd_33 (by assumption) (by assumption) (by assumption) (by assumption)).1];exact Le.of_eq rfl)
      | (rw [(rd_33 (by assumption) (by assumption) (by assumption) (by assumption)).2];done)
      | (rw [(rd_58 (by assumption) (by assumption) (by assumption) (by assumption) (by assumption)).1];exact Le.of_eq rfl)
      | (rw [(rd_58 (by assumption) (by assumption) (by assumption) (by assumption) (by assumption)).2];done)
      | (rw [(rd_34 (by assumption) (by assumption) (by assumption) (by assumption) (by assumption) (by assumption) (by assumption)).1];exact Le.of_eq rfl)
      | (rw [(rd_34 (by assumption) (by assumption) (by assumption) (by assumption) (by assumption) (by assumption) (by assumption)).2];rename_i hh;rw [hh];done)
      | (rw [(rd_34 (by assumption) (by assumption) (by assumption) (by assumption) (by assumption) (by assumption) (by assumption)).2];rename_i hh;rw [hh];rfl)
      | (rw [(rd_n (by assumption) (by assumption) (by assumption) (by assumption) (by assumption) (by assumption) (by assumption)).1];exact Le.of_eq rfl)
      | (rw [(rd_n (by assumption) (by assumption) (by assumption) (by assumption) (by assumption) (by assumption) (by assumption)).2];done)
      | exact rdB_t (by assumption)
      | exact rdB_tf (.inl (by assumption)) (by assumption)
      | exact rdB_tf (.inr (by assumption)) (by assumption)
      | skip
    rename_i g1 g2 g3 g4 g5 g6
    obtain ⟨hn,hsm⟩:=rd_35 g1 g2 g3 g4 g5 g6
    refine W_range (.inl rfl) fun l=>?_
    refine pairs1_acE 4 l (fun acc s=>[_,_,.cells (bCells (pA 2 acc) 3 acc []) (some 89),.tail acc.length 1 5,.cells [str s] none,_,_]) (by omega) rfl (fun _ _=>rfl) (fun _ _ _=>rfl) ?_ ?_ ?_
    · intro acc s c' hlen hne hc'
      have hal : acc.length < 1099511627776:=by omega
      refine YW.round (r:=6) rfl rfl rfl ?_
      repeat' first
 | (apply p1 (hd:=rfl);case hop=>first|(apply D_assign;rfl))
 | refine W_seq ?_
 | refine W_region ?_
 | refine WL_nil ?_
 | (refine tn ?_)
      refine ⟨rfl,rfl,?_⟩
      repeat' first
 | (apply p1 (hd:=rfl);case hop=>first|(apply D_move;rfl)|(apply D_not;rfl)|exact D_build rfl)
 | refine W_seq ?_
 | refine W_region ?_
 | (refine idC ?_;refine cs rfl (fun _=>?_) (fun _=>?_))
 | refine WL_nil ?_
 | refine tn ?_
 | refine tr ?_
 | refine br ?_
 | refine bn ?_
 | refine W_skip ?_
 | refine W_block ?_
 | refine W_ret ?_
 | (refine idS ?_;refine pS (S_store rfl rfl rfl rfl rfl rfl rfl) ?_)
 | (refine m_call (d:=72) (wbyte_ac (r:=2) (tk:=3) (l:=acc) (n:=2) rfl ⟨rfl,rfl,pA_own 2 acc,hal⟩ c') rfl rfl rfl ?_;rintro _ _ ⟨rfl,rfl⟩)
      · contradiction
      · refine ⟨rfl,⟨_,_,rfl⟩,rfl,?_⟩
        rw [pA_snoc];rfl
    · intro acc s c' hlen hne hc' hu
      refine YW.round (r:=6) rfl rfl rfl ?_
      repeat' first
 | (apply p1 (hd:=rfl);case hop=>first|(apply D_assign;rfl))
 | refine W_seq ?_
 | refine W_region ?_
 | refine WL_nil ?_
 | (refine tn ?_)
      refine ⟨rfl,rfl,?_⟩
      repeat' first
 | (apply p1 (hd:=rfl);case hop=>first|(apply D_move;rfl)|(apply D_not;rfl)|exact D_build rfl)
 | refine W_seq ?_
 | refine W_region ?_
 | (refine idC ?_;refine cs rfl (fun _=>?_) (fun _=>?_))
 | refine WL_nil ?_
 | refine tn ?_
 | refine tr ?_
 | refine br ?_
 | refine W_skip ?_
 | refine W_block ?_
 | refine W_ret ?_
 | (refine idS ?_;refine pS (S_store rfl rfl rfl rfl rfl rfl rfl) ?_)
      · refine ⟨rfl,⟨_,_,rfl⟩,⟨_,_,rfl,by decide,?_⟩⟩
        repeat' first
 | refine tr ?_
 | refine br ?_
 | (refine idR ?_;first|refine rL2 rfl (by first|exact trivial|exact ⟨rfl,trivial⟩) (by first|exact ResO.tmp rfl|exact ResO.cellBA rfl rfl rfl|exact ResO.cellB1 rfl rfl rfl|exact ResO.cellEA rfl rfl|exact ResO.cellE1 rfl) (by first|exact ResO.tmp rfl|exact ResO.cellBA rfl rfl rfl|exact ResO.cellB1 rfl rfl rfl|exact ResO.cellEA rfl rfl|exact ResO.cellE1 rfl) ?_ ?_)
 | (refine Le.bool ?_)
        · rw [(hn hu).1];exact Le.of_eq rfl
        · rw [(hn hu).2]
      · contradiction
    · intro out hu
      have hol : out.length < 1099511627776:=by
        have h1:=hexs_len out
        rw [unhex_inv _ _ hu] at h1
        omega
      refine ⟨_,_,rfl,by decide,?_⟩
      repeat' first
 | (apply p1 (hd:=rfl);case hop=>first|exact D_build rfl)
 | refine W_seq ?_
 | refine W_region ?_
 | refine WL_nil ?_
 | refine tn ?_
 | refine tr ?_
 | refine br ?_
 | refine bn ?_
 | refine W_ret ?_
 | (refine idR ?_;first|refine rL2 rfl (by first|exact trivial|exact ⟨rfl,trivial⟩) (by first|exact ResO.tmp rfl|exact ResO.cellBA rfl rfl rfl|exact ResO.cellB1 rfl rfl rfl|exact ResO.cellEA rfl rfl|exact ResO.cellE1 rfl) (by first|exact ResO.tmp rfl|exact ResO.cellBA rfl rfl rfl|exact ResO.cellB1 rfl rfl rfl|exact ResO.cellEA rfl rfl|exact ResO.cellE1 rfl) ?_ ?_)
 | (refine idS ?_;refine pS (S_store rfl rfl rfl rfl rfl rfl rfl) ?_)
 | refine Le.bool ?_
 | (refine m_call (d:=73) (bstr_ac (r:=2) (tk:=3) (l:=out) ⟨rfl,rfl,pA_own 2 out,hol⟩) rfl rfl rfl ?_;rintro _ _ ⟨rfl,rfl⟩)
      · rw [(hsm out hu).1];exact Le.of_eq rfl
      · rw [(hsm out hu).2]
theorem readB_f {s : List UInt8} (h : readB s = false) : ∀ v,readL s = some v → ¬ MayP v:=fun v e=>by rw [readB,e] at h;cases h
theorem readB_n {s : List UInt8} (h : ¬ MayP (readP s)) : ∀ v,readL s = some v → ¬ MayP v:=fun v e=>by rw [readP_of e] at h;exact h
theorem readB_y {s : List UInt8} (h : readB s = true) : readL s = some (readP s):=by
  rcases e : readL s with _|v
  · rw [readB,e] at h;cases h
  · rw [readP_of e]
set_option maxHeartbeats 8000000 in
theorem parse_pc [GlobF Tryd.prog] (hp : PowOK) (he : ErrsOK) (s : List UInt8) (hs : s.length < 268435456) : PC Tryd.prog 41 [str s] (.tu [eV (parseV s),.sc (.int .i64 (parseE s))]):=by
  refine PC.of_body Tryd.func41 Tryd.ntmps41 rfl rfl rfl ?_
  repeat' first
 | (apply p1 (hd:=rfl);case hop=>first|(apply D_move;rfl)|(apply D_assign;rfl)|(apply D_pc (read_pc hp he s hs);rfl;exact .same rfl .nil)|(apply D_pc (may_pc (readP s) (readP_len s hs));rfl;exact .same rfl .nil)|(apply D_pickT;rfl;rfl)|(apply D_pickF;rfl;rfl)|(apply D_ext;rfl;rfl)|(apply D_not;rfl)|(apply D_loadW;rfl;rfl)|exact D_build rfl)
 | refine W_seq ?_
 | refine W_region ?_
 | (refine idC ?_;first|refine c1 rfl ?_|refine cs rfl (fun _=>?_) (fun _=>?_))
 | refine WL_nil ?_
 | (refine idG ?_;first|refine g0f rfl rfl rfl ?_|refine gr rfl rfl ?_|refine gs rfl rfl (fun _=>?_) (fun _=>?_))
 | refine tn ?_
 | refine tr ?_
 | refine W_skip ?_
 | refine W_ret ?_
 | (refine idR ?_;first|refine rL2 rfl (by first|exact trivial|exact ⟨rfl,trivial⟩) (by first|exact ResO.tmp rfl|exact ResO.cellBA rfl rfl rfl|exact ResO.cellB1 rfl rfl rfl|exact ResO.cellEA rfl rfl|exact ResO.cellE1 rfl) (by first|exact ResO.tmp rfl|exact ResO.cellBA rfl rfl rfl|exact ResO.cellB1 rfl rfl rfl|exact ResO.cellEA rfl rfl|exact ResO.cellE1 rfl) ?_ ?_)
 | (refine idA ?_;first|refine m_var rfl rfl rfl rfl rfl rfl rfl ?_|refine m_alloc rfl ?_)
 | (refine idS ?_;refine pS (S_store rfl rfl rfl rfl rfl rfl rfl) ?_)
 | (refine Le.int ?_)
  · rename_i hb
    rw [(parse_no (readB_f hb)).1];exact Le.of_eq rfl
  · rename_i hb
    rw [(parse_no (readB_f hb)).2]
  · rename_i hb hm
    rw [(parse_no (readB_n hm)).1];exact Le.of_eq rfl
  · rename_i hb hm
    rw [(parse_no (readB_n hm)).2]
  · rename_i hb hm
    rw [(parse_ok (readB_y hb) hm).1];exact Le.of_eq rfl
  · rename_i hb hm
    rw [(parse_ok (readB_y hb) hm).2]
end Go.Proofs

namespace Go.Proofs
open Go.AL
attribute [local irreducible] Go.AL.W Go.AL.WL Go.AL.WD Go.AL.POp Go.AL.PPOp Go.AL.POpS Go.AL.PC Go.AL.AC Go.AL.YW Go.AL.Ret Go.AL.Le Go.AL.thn Go.AL.inBlk Go.AL.scp
end Go.Proofs

namespace Go.Proofs
open Go.AL
attribute [local irreducible] Go.AL.W Go.AL.WL Go.AL.WD Go.AL.POp Go.AL.PPOp Go.AL.POpS Go.AL.PC Go.AL.AC Go.AL.YW Go.AL.Ret Go.AL.Le Go.AL.thn Go.AL.inBlk Go.AL.scp
end Go.Proofs

namespace Go.Proofs
open Go.AL
attribute [local irreducible] Go.AL.W Go.AL.WL Go.AL.WD Go.AL.POp Go.AL.PPOp Go.AL.POpS Go.AL.PC Go.AL.AC Go.AL.YW Go.AL.Ret Go.AL.Le Go.AL.thn Go.AL.inBlk Go.AL.scp
theorem parse_of {s : List UInt8} {v : Val} (hb : readB s = true) (hv : readP s = v) : (MayP v → parseV s = v ∧ parseE s = 0) ∧ (¬ MayP v → parseV s = zV ∧ parseE s = 11):=by
  have h:=readB_y hb
  rw [hv] at h
  exact ⟨fun hm=>parse_ok h hm,fun hm=>parse_no fun u e=>by rw [h] at e;cases e;exact hm⟩
theorem ln {s : List UInt8} {b : Bool} {v : Val} (hB : readB s = b) (hb : b = true) (hv : readP s = v) (hm : ¬ MayP v) : parseV s = zV ∧ parseE s = 11:=(parse_of (hB.trans hb) hv).2 hm
end Go.Proofs
