/- Contracts of the program's writer of nodes: nodes; text.Print, text.Lines, text.Same. -/
import Derived.Test.YtnjnjbombcefcaaDoorCP2
import Derived.Test.YtnjnjbombcefcaaDoorPTx
import Derived.Test.YtnjnjbombcefcaaDoorCDInst
import Derived.Test.YtnjnjbombcefcaaDoorPTx4
import Derived.Test.YtnjnjbombcefcaaDoorOps26
set_option linter.all false
namespace Go.Proofs.Wr
open Go.AL Go.Txt
attribute [local irreducible] Go.AL.W Go.AL.WL Go.AL.WD Go.AL.POp Go.AL.PPOp Go.AL.POpS Go.AL.PC Go.AL.AC Go.AL.YW Go.AL.Ret Go.AL.Le Go.AL.thn Go.AL.inBlk Go.AL.scp
theorem last_at {H K : List AObj} {o o' : AObj} (hK : K = (H ++ [o]).set H.length o') : K[H.length]? = some o':=by
  rw [hK,set_lastO];simp
theorem WS.keep {h0 h K : List AObj} {p tk q : Nat} {pa : AV} {b c : List UInt8} {d m : Int} {bad : Bool} {o : AObj} (hS : WS h0 h p tk pa b d m bad) (hq : h0.length ≤ q) (hK : K = bldH h p tk wT c [i64 d,i64 m,bl bad]) (ho : h[q]? = some o) : K[q]? = some o:=by
  subst hK
  unfold bldH
  have h1:=hS.pl
  have h2:=hS.tl
  rw [List.getElem?_set_ne (by omega),List.getElem?_set_ne (by omega)]
  exact ho
theorem take_at {l : List Nd} {i : Nat} (hi : i < l.length) : l.take (i + 1) = l.take i ++ [l[i]]:=List.take_succ_eq_append_getElem hi
theorem prS_take (sep : List UInt8) {l : List Nd} {i : Nat} (hi : i < l.length) : prS sep (l.take (i + 1)) = prS sep (l.take i) ++ ((if i = 0 then [] else sep) ++ prN l[i]):=by
  rw [take_at hi,prS_snoc]
  congr 2
  cases i with
  | zero=>simp
  | succ i =>
    cases l with
    | nil=>simp at hi
    | cons x l=>simp
theorem nszL_take {l : List Nd} {i : Nat} (hi : i < l.length) : nszL (l.take (i + 1)) = nszL (l.take i) + nsz l[i]:=by rw [take_at hi,nszL_app,nszL_one]
theorem okL_take {d : Nat} {l : List Nd} {i : Nat} (hi : i < l.length) : okL d (l.take (i + 1)) ↔ okL d (l.take i) ∧ okN d l[i]:=by rw [take_at hi,okL_app];simp [okL]
theorem nszL_le (l : List Nd) (i : Nat) : nszL (l.take i) ≤ nszL l:=by
  have h:=nszL_app (l.take i) (l.drop i)
  rw [List.take_append_drop] at h
  omega
theorem wtL_le (l : List Nd) (i : Nat) : wtL (l.take i) + wtL (l.drop i) = wtL l:=by
  have h:=wtL_app (l.take i) (l.drop i)
  rw [List.take_append_drop] at h
  omega
theorem wtL_at {l : List Nd} {i : Nat} (hi : i < l.length) : wtL (l.take i) + wtN l[i] ≤ wtL l:=by
  have h1:=wtL_le l (i + 1)
  have h2:=wtL_app (l.take i) [l[i]]
  rw [← take_at hi] at h2
  simp only [wtL] at h2
  omega
theorem rgL_take {l : List Nd} (h : rgL l) (i : Nat) : rgL (l.take i):=by
  have:=(rgL_app (l.take i) (l.drop i)).1 (by rw [List.take_append_drop];exact h)
  exact this.1
theorem prS_len1 {sep : List UInt8} (hs : sep.length ≤ 1) {d : Nat} : ∀ {l : List Nd},l ≠ [] → okL d l → rgL l → (prS sep l).length + 1 ≤ wtL l
  | [],h,_,_=>absurd rfl h
  | [x],_,h,hr=>by
    rw [okL] at h
    rw [rgL] at hr
    have h1:=prN_len x d h.1 hr.1
    simp only [prS,wtL,List.isEmpty_nil,if_true,List.append_nil];omega
  | x :: y :: l,_,h,hr=>by
    rw [okL] at h
    rw [rgL] at hr
    have h1:=prN_len x d h.1 hr.1
    have h2:=prS_len1 hs (l:=y :: l) (by simp) h.2 hr.2
    rw [prS,wtL,List.length_append]
    rw [if_neg (by simp),List.length_append];omega
set_option maxHeartbeats 16000000 in
theorem list_w [GlobF Tryd.prog] (N : Nat) (hNd : NodeW N) (hN : N < 9223372036854775807) : ListW N:=by
  intro l sep d m b pa h0 h p tk hn hsl hr hS hd hm hb
  have hcl : (ndCs l).length = l.length:=ndCs_len _
  have hll:=nszL_len l
  have hbig : l.length < 9223372036854775807:=by omega
  clear hN
  refine AC.of_body Tryd.func46 Tryd.ntmps46 rfl rfl rfl ?_
  repeat' first
 | (apply p1 (hd:=rfl);case hop=>first|(apply D_move;rfl)|(apply D_len_sl;rfl))
 | refine W_seq ?_
 | refine W_region ?_
 | refine WL_nil ?_
 | refine tn ?_
 | (refine W_block ?_)
  refine W_loopL (X:=Nat × List AObj × AV) (fun x=>[(0,.bp p 0),(2,str sep),(8,.sl none 8 (ndCs l)),(9,i64 ((ndCs l).length : Int)),(10,i64 (x.1 : Int))]) (fun x=>x.2.1)
    (fun x=>x.1 ≤ l.length ∧ okL d (l.take x.1) ∧ m + nszL (l.take x.1) ≤ 5000 ∧ WS h0 x.2.1 p tk x.2.2 (b ++ prS sep (l.take x.1)) d ((m + nszL (l.take x.1) : Nat) : Int) false)
    (fun x=>l.length - x.1) (0,h,pa) ⟨Nat.zero_le _,by rw [List.take_zero];simp [okL],by simpa [nszL] using hm,by simpa [prS,nszL] using hS⟩ ⟨rfl,rfl,rfl,rfl,rfl,trivial⟩ rfl ?_
  rintro ⟨i,H,pa⟩ ⟨hi,hok,hmi,hS⟩
  simp only at hi hok hmi hS ⊢
  by_cases hi1 : i < l.length
  · have hnx:=nsz_mem (List.getElem_mem hi1)
    have hlen:=prS_len hsl hok (rgL_take hr i)
    have hwl:=wtL_at hi1
    have hrx:=rgL_mem hr (List.getElem_mem hi1)
    have hke:=prS_take sep hi1
    have hne:=nszL_take hi1
    have hoe:=okL_take (d:=d) hi1
    have hle:=nszL_le l (i + 1)
    have hno : ∀ {x : Nd},l[i] = x → ¬ (okN d x ∧ m + nszL (l.take i) + nsz x ≤ 5000) → ¬ (okL d l ∧ m + nszL l ≤ 5000):=fun e hx h=>by
      subst e
      exact hx ⟨okL_mem h.1 (List.getElem_mem hi1),by omega⟩
    have he:=ndCs_at (List.getElem?_eq_getElem hi1)
    generalize l[i] = x at *
    obtain ⟨k0,vk,vn,vs,s,kids,ln,cl⟩:=x
    rw [ndC_mk] at he
    by_cases hi0 : i = 0
    · rw [if_pos hi0] at hke
      repeat' first
 | (refine idC ?_;refine cs rfl (fun _=>?_) (fun hh=>absurd hh (by first|exact fun h=>h rfl|omega)))
 | (refine idC ?_;refine cs rfl (fun hh=>absurd hh (by first|exact fun h=>h rfl|omega)) (fun _=>?_))
 | (apply p1 (hd:=rfl);case hop=>first|(apply D_move;rfl)|(apply D_assign;rfl)|exact D_idxE rfl rfl (Int.natCast_nonneg i) he|(apply D_int;rfl;rfl;rfl)|(apply D_loadW;rfl;rfl))
 | refine W_seq ?_
 | refine W_region ?_
 | refine WL_nil ?_
 | refine tn ?_
 | refine W_skip ?_
 | refine W_block ?_
 | (refine idLd ?_;first|refine p1L (D_loadBA rfl (by (repeat first|assumption|exact get_last|(refine get_last2 ?_;focus (simp;done))|apply get_set|apply get_app|(apply get_ne;focus omega)|(apply get_ne;focus (simp only [List.length_set,List.length_append,List.length_cons,List.length_nil];omega)));done) (by rfl)) rfl ?_)
 | (refine idA ?_;refine m_alloc rfl ?_)
 | (refine idS ?_;first|refine pS (S_store rfl rfl rfl (by (repeat first|assumption|exact get_last|(refine get_last2 ?_;focus (simp;done))|apply get_set|apply get_app|(apply get_ne;focus omega)|(apply get_ne;focus (simp only [List.length_set,List.length_append,List.length_cons,List.length_nil];omega)));done) (by rfl) (by rfl) (by rfl)) ?_)
      refine WL_gen fun K hK=>?_
      have hS:=WS.app hS hK
      have hcall:=hNd (.mk k0 vk vn vs s kids ln cl) d _ _ _ h0 K p tk (by omega) hrx hS hd hmi (by rw [List.length_append];omega)
      rw [ndC_mk] at hcall
      repeat' first
 | (refine p1L (D_loadB1 rfl hS.box rfl) rfl ?_)
 | (apply p1 (hd:=rfl);case hop=>first|(apply D_move;rfl)|(apply D_int;rfl;rfl;rfl)|exact D_fldB rfl|(apply D_nilB;rfl))
 | refine W_seq ?_
 | refine W_region ?_
 | (refine idC ?_;first|refine c1 rfl ?_|refine c0 rfl ?_)
 | refine WL_nil ?_
 | refine tn ?_
 | refine tr ?_
 | refine br ?_
 | refine bn ?_
 | refine W_skip ?_
 | refine W_ret ?_
 | (refine m_call (d:=24) hcall rfl rfl rfl ?_;rintro _ K ⟨rfl,(⟨hok2,hle2,pa2,hS⟩ | ⟨hno2,pa2,b2,m2,hb2,hS⟩)⟩)
      · refine ⟨rfl,(i + 1,K,pa2),⟨hi1,hoe.2 ⟨hok,hok2⟩,by rw [hne];omega,?_⟩,by show l.length - (i + 1) < l.length - i;omega,⟨rfl,rfl,rfl,rfl,ieq (wsucc i (by omega)),trivial⟩,rfl⟩
        rw [hke,hne,← Nat.add_assoc]
        simpa using hS
      · refine ret0 (.inl rfl) rfl rfl ⟨rfl,.inr ⟨hno rfl hno2,pa2,b2,m2,?_,hS⟩⟩
        rw [List.length_append] at hb2
        omega
    · rw [if_neg hi0] at hke
      have hp0 : 0 < i:=Nat.pos_of_ne_zero hi0
      have hHl:=hS.len
      have hlen1:=prS_len1 hsl (fun e=>by have h:=congrArg List.length e;rw [List.length_take,List.length_nil] at h;omega) hok (rgL_take hr i)
      repeat' first
 | (refine idC ?_;refine cs rfl (fun _=>?_) (fun hh=>absurd hh (by first|exact fun h=>h rfl|omega)))
 | (apply p1 (hd:=rfl);case hop=>first|(apply D_move;rfl)|(apply D_assign;rfl)|exact D_idxE rfl rfl (Int.natCast_nonneg i) he|(apply D_int;rfl;rfl;rfl)|(apply D_loadW;rfl;rfl)|exact D_fldB rfl|(apply D_nilB;rfl))
 | refine W_seq ?_
 | refine W_region ?_
 | refine WL_nil ?_
 | refine tn ?_
 | refine W_skip ?_
 | refine W_block ?_
 | (refine idA ?_;refine m_alloc rfl ?_)
 | (refine idS ?_;first|refine pS (S_store rfl rfl rfl (by (repeat first|assumption|exact get_last|(refine get_last2 ?_;focus (simp;done))|apply get_set|apply get_app|(apply get_ne;focus omega)|(apply get_ne;focus (simp only [List.length_set,List.length_append,List.length_cons,List.length_nil];omega)));done) (by rfl) (by rfl) (by rfl)) ?_)
      refine WL_gen fun K hK=>?_
      have hS:=WS.app hS hK
      have hq:=last_at hK
      have hls : (b ++ prS sep (l.take i)).length < 1099511627776:=by rw [List.length_append];omega
      refine m_call (d:=21) (wstr_ac (n:=5) rfl (hS.bld hls) sep (by omega)) rfl rfl rfl ?_
      rintro _ K ⟨rfl,hK⟩
      have hq:=WS.keep hS hHl hK hq
      have hS:=WS.wr hS hK
      have hcall:=hNd (.mk k0 vk vn vs s kids ln cl) d _ _ _ h0 K p tk (by omega) hrx hS hd hmi (by
        have : 4000 ≤ wtN (.mk k0 vk vn vs s kids ln cl):=by rw [wtN];omega
        rw [List.length_append,List.length_append];omega)
      rw [ndC_mk] at hcall
      repeat' first
 | (refine p1L (D_loadBA rfl hq rfl) rfl ?_)
 | (refine p1L (D_loadB1 rfl hS.box rfl) rfl ?_)
 | (apply p1 (hd:=rfl);case hop=>first|(apply D_move;rfl)|(apply D_int;rfl;rfl;rfl)|exact D_fldB rfl|(apply D_nilB;rfl))
 | refine W_seq ?_
 | refine W_region ?_
 | (refine idC ?_;first|refine c1 rfl ?_|refine c0 rfl ?_)
 | refine WL_nil ?_
 | refine tn ?_
 | refine tr ?_
 | refine br ?_
 | refine bn ?_
 | refine W_skip ?_
 | refine W_ret ?_
 | (refine m_call (d:=24) hcall rfl rfl rfl ?_;rintro _ K ⟨rfl,(⟨hok2,hle2,pa2,hS⟩ | ⟨hno2,pa2,b2,m2,hb2,hS⟩)⟩)
      · refine ⟨rfl,(i + 1,K,pa2),⟨hi1,hoe.2 ⟨hok,hok2⟩,by rw [hne];omega,?_⟩,by show l.length - (i + 1) < l.length - i;omega,⟨rfl,rfl,rfl,rfl,ieq (wsucc i (by omega)),trivial⟩,rfl⟩
        rw [hke,hne,← Nat.add_assoc]
        simpa using hS
      · refine ret0 (.inl rfl) rfl rfl ⟨rfl,.inr ⟨hno rfl hno2,pa2,b2,m2,?_,hS⟩⟩
        rw [List.length_append,List.length_append] at hb2
        omega
  · have e : i = l.length:=by omega
    subst e
    repeat' first
 | (refine idC ?_;refine cs rfl (fun hh=>absurd hh (by first|exact fun h=>h rfl|omega)) (fun _=>?_))
 | (apply p1 (hd:=rfl);case hop=>first|(apply D_int;rfl;rfl;rfl))
 | refine W_seq ?_
 | refine W_region ?_
 | refine WL_nil ?_
 | refine tn ?_
 | refine te ?_
 | (refine idB ?_;refine bh rfl ?_)
 | (refine W_exit ?_)
    all_goals first
      | (exfalso;omega)
      | skip
    rw [List.take_length] at hok hmi hS
    exact ret0 (.inr rfl) rfl rfl ⟨rfl,.inl ⟨hok,hmi,pa,hS⟩⟩
end Go.Proofs.Wr

namespace Go.Proofs
open Go.AL Go.Txt
instance (c : UInt8) : Decidable (digP c):=by unfold digP;infer_instance
instance (c : UInt8) : Decidable (lowP c):=by unfold lowP;infer_instance
instance (c : UInt8) : Decidable (tailP c):=by unfold tailP;infer_instance
instance (c : UInt8) : Decidable (plainP c):=by unfold plainP;infer_instance
instance (s : List UInt8) (h : 0 < s.length) : Decidable (leadP s h):=by unfold leadP;infer_instance
instance (s : List UInt8) (j : Nat) (h : j < s.length) : Decidable (okP s j h):=by unfold okP;infer_instance
instance (s : List UInt8) : Decidable (WordP s):=by unfold WordP;infer_instance
instance (s : List UInt8) : Decidable (NamedP s):=by unfold NamedP;infer_instance
instance (v : Val) : Decidable (MayP v):=by unfold MayP;infer_instance
def unqC : List UInt8 → Option (List UInt8)
  | []=>some []
  | c :: r=>if plainP c then (unqC r).map (c :: ·) else if c = 92 then
      (match r with
      | a :: b :: r'=>match pairO a b with
        | some d=>if plainP d then none else (unqC r').map (d :: ·)
        | none=>none
      | _=>none) else none
theorem unqC_eq : ∀ (n : Nat) (l : List UInt8),l.length ≤ n → unq l = unqC l
  | _,[],_=>by rw [unq,unqC]
  | 0,c :: r,h=>by simp at h
  | n + 1,c :: r,h=>by
    simp only [List.length_cons] at h
    have e1 : ∀ x : UInt8,(plainB x = true) = plainP x:=fun x=>propext (plainB_t x)
    rw [unq_cons,unqC.eq_def]
    simp only [e1,unqC_eq n r (by omega)]
    split
    · rfl
    · split
      · cases r with
        | nil=>rfl
        | cons a r =>
          cases r with
          | nil=>rfl
          | cons b r =>
            simp only [List.length_cons] at h
            simp only [unqC_eq n r (by omega)]
            cases pairO a b with
            | none=>rfl
            | some d=>by_cases hp : plainP d <;> simp [hp]
      · rfl
def readC : List UInt8 → Option Val
  | []=>none
  | c :: r =>
    if c = 116 ∨ c = 102 then (if c :: r = trueL then some ⟨2,1,[]⟩ else if c :: r = falseL then some ⟨2,0,[]⟩ else none)
    else if c = 64 then (numO r).map fun n=>⟨5,n,[]⟩
    else if c = 33 then (numO r).map fun n=>⟨6,n,[]⟩
    else if c = 58 then some ⟨7,0,r⟩
    else if c = 35 then (unhex r).map fun l=>⟨4,0,l⟩
    else if c = 34 then (if r.getLast? = some 34 then (unqC r.dropLast).map fun l=>⟨3,0,l⟩ else none)
    else (numO (c :: r)).map fun n=>⟨1,n,[]⟩
theorem readC_eq (l : List UInt8) : readL l = readC l:=by
  cases l with
  | nil=>rfl
  | cons c r=>rw [readL,readC,unqC_eq _ _ (Nat.le_refl _)]
def nameC (w : List UInt8) : Option (Int × Int × Int × List UInt8 × List UInt8):=if NamedP w then some (2,0,0,[],w) else none
def leafC : Leaf:=fun w=>match readC w with
  | some v=>if MayP v then some (1,v.kind,v.n,v.s,[]) else nameC w
  | none=>nameC w
theorem leafC_eq : leafT = leafC:=by
  funext w
  have hn : ∀ h : parseE w ≠ 0,leafT w = nameC w:=fun h=>by
    unfold nameC
    by_cases hN : NamedP w
    · rw [leaf_n h hN,if_pos hN]
    · rw [leaf_no h hN,if_neg hN]
  unfold leafC
  rw [← readC_eq]
  cases hr : readL w with
  | none =>
    exact hn (by rw [(parse_no fun v e=>by rw [hr] at e;cases e).2];decide)
  | some v =>
    simp only
    by_cases hM : MayP v
    · rw [if_pos hM,leaf_v (parse_ok hr hM).2,(parse_ok hr hM).1]
    · rw [if_neg hM]
      exact hn (by rw [(parse_no fun u e=>by rw [hr] at e;cases e;exact hM).2];decide)
def parC (s : List UInt8) : Res:=mach leafC (toksF (s.length + 1) s 1 1 false) [] [] 0
theorem parC_eq (s : List UInt8) : mach leafT (toks s 1 1 false) [] [] 0 = parC s:=by
  unfold parC;rw [leafC_eq,toksF_eq _ _ _ _ _ (Nat.lt_succ_self _)]
def escC (c : UInt8) : List UInt8:=if plainP c then [c] else 92 :: hexL c
theorem escC_eq : escL = escC:=by
  funext c
  unfold escL escC
  by_cases h : plainP c
  · rw [if_pos h,if_pos h]
  · rw [if_neg h,if_neg h]
def textC (v : Val) : List UInt8 :=
  if v.kind = 1 then Lib.itoa v.n else if v.kind = 2 then (if v.n = 1 then [116,114,117,101] else [102,97,108,115,101]) else if v.kind = 5 then 64 :: Lib.itoa v.n else if v.kind = 6 then 33 :: Lib.itoa v.n
  else if v.kind = 7 then 58 :: v.s else if v.kind = 4 then 35 :: v.s.flatMap hexL else 34 :: (v.s.flatMap escC ++ [34])
theorem textC_eq : textL = textC:=by
  funext v
  unfold textL textC
  rw [escC_eq]
end Go.Proofs

namespace Go.Proofs.Wr
open Go.AL Go.Txt
def okP (l : List Nd) : Prop:=okL 0 l ∧ nszL l ≤ 5000
structure Fit (l : List Nd) : Prop where
  rg : rgL l
  wt : wtL l < 900000000000
  n : nszL l < 9223372036854775806
theorem read_rng {w : List UInt8} {v : Val} (h : readL w = some v) : -9223372036854775808 ≤ v.n ∧ v.n ≤ 9223372036854775807:=by
  have hz : (-9223372036854775808 : Int) ≤ 0 ∧ (0 : Int) ≤ 9223372036854775807:=by decide
  have h1 : (-9223372036854775808 : Int) ≤ 1 ∧ (1 : Int) ≤ 9223372036854775807:=by decide
  have hn : ∀ {r : List UInt8} {n : Int},numO r = some n → -9223372036854775808 ≤ n ∧ n ≤ 9223372036854775807:=fun e=>⟨(numO_iff.1 e).1,(numO_iff.1 e).2.1⟩
  cases w with
  | nil=>simp [readL] at h
  | cons c r =>
    rw [readL] at h
    split at h
    · split at h
      · cases h;exact h1
      · split at h
        · cases h;exact hz
        · cases h
    split at h
    · obtain ⟨n,e,rfl⟩:=Option.map_eq_some_iff.1 h;exact hn e
    split at h
    · obtain ⟨n,e,rfl⟩:=Option.map_eq_some_iff.1 h;exact hn e
    split at h
    · cases h;exact hz
    split at h
    · obtain ⟨n,e,rfl⟩:=Option.map_eq_some_iff.1 h;exact hz
    split at h
    · split at h
      · obtain ⟨n,e,rfl⟩:=Option.map_eq_some_iff.1 h;exact hz
      · cases h
    · obtain ⟨n,e,rfl⟩:=Option.map_eq_some_iff.1 h;exact hn e
theorem may_len {v : Val} (hm : MayP v) : v.s.length ≤ 1000:=by
  rcases hm with ⟨_,_,_,h⟩ | ⟨_,h⟩ | ⟨_,h,_⟩ | ⟨_,_,h⟩ | ⟨_,_,h⟩
  · rw [h];exact Nat.zero_le _
  · rw [h];exact Nat.zero_le _
  · rw [h];exact Nat.zero_le _
  · exact h
  · exact Nat.le_trans h.2.1 (by decide)
theorem leaf_ok {w : List UInt8} {x : Int × Int × Int × List UInt8 × List UInt8} (h : leafT w = some x) (d a b : Nat) : okN d (leafN x a b) ∧ rgN (leafN x a b):=by
  unfold leafT at h
  split at h
  · next h0 =>
    cases h
    rcases parse_cases w with ⟨v,hv,hm⟩|hno
    · rw [(parse_ok hv hm).1]
      have hr:=read_rng hv
      have hl:=may_len hm
      refine ⟨?_,?_⟩
      · simp only [leafN];rw [okN];exact .inl ⟨rfl,hm,rfl,rfl⟩
      · simp only [leafN];rw [rgN];exact ⟨⟨hr.1,hr.2,by show v.s.length < _;omega⟩,trivial⟩
    · rw [(parse_no hno).2] at h0;exact absurd h0 (by decide)
  · split at h
    · next hn =>
      cases h
      refine ⟨?_,?_⟩
      · simp only [leafN];rw [okN];exact .inr (.inl ⟨rfl,hn,⟨rfl,rfl,rfl⟩,rfl⟩)
      · simp only [leafN];rw [rgN];exact ⟨⟨by decide,by decide,by simp⟩,trivial⟩
    · cases h
def hdOK : Nd → Prop
  | .mk k vk vn vs s _ _ _=>(3 ≤ k ∧ k ≤ 5) ∧ s = [] ∧ (vk = 0 ∧ vn = 0 ∧ vs = [])
def stkOK : List (List Nd × Nd) → Prop
  | []=>True
  | x :: l=>okL l.length x.1 ∧ rgL x.1 ∧ l.length < 50 ∧ hdOK x.2 ∧ stkOK l
theorem within_ok {h : Nd} {d : Nat} {l : List Nd} (hh : hdOK h) (hd : d < 50) (hl : okL (d + 1) l) (hr : rgL l) : okN d (h.within l) ∧ rgN (h.within l):=by
  cases h with
  | mk k vk vn vs s ks ln cl =>
    obtain ⟨h1,h2,h3⟩:=hh
    refine ⟨?_,?_⟩
    · simp only [Nd.within];rw [okN];exact .inr (.inr ⟨h1,h2,h3,hd,hl⟩)
    · simp only [Nd.within];rw [rgN]
      obtain ⟨rfl,rfl,rfl⟩:=h3
      exact ⟨⟨by decide,by decide,by simp⟩,hr⟩
theorem opn_ok (c : UInt8) (hc : c ∈ opn) (a b : Nat) : hdOK (opnN c a b []):=by
  have : opn.idxOf c < 3:=List.idxOf_lt_length_of_mem hc
  refine ⟨⟨by omega,by omega⟩,rfl,rfl,rfl,rfl⟩
theorem mach_okL : ∀ (ts : List Tok) (cur : List Nd) (stk : List (List Nd × Nd)) (many : Nat) (l : List Nd),
    mach leafT ts cur stk many = .ok l → okL stk.length cur → rgL cur → stkOK stk → okL 0 l ∧ rgL l
  | [],cur,stk,many,l,h,h1,h2,h3=>by
    rw [mach] at h;cases h;simp [okL,rgL]
  | t :: ts, cur, stk,many,l,h,h1,h2,h3=>by
    rw [mach] at h
    split at h
    · cases h
    next hb =>
    obtain ⟨w,ln,cl,bd⟩:=t
    cases w with
    | nil =>
      simp only at h hb
      cases h
      have hs : stk = []:=by
        rcases Classical.em (stk = []) with e|e
        · exact e
        · exact absurd (.inr ⟨trivial,e⟩) hb
      subst hs
      exact ⟨h1,h2⟩
    | cons c r =>
      simp only at h
      split at h
      · next hc =>
        cases stk with
        | nil=>cases h
        | cons x stk =>
          obtain ⟨o,hd⟩:=x
          obtain ⟨g1,g2,g3,g4,g5⟩:=h3
          simp only at h
          split at h
          · obtain ⟨w1,w2⟩:=within_ok g4 g3 h1 h2
            exact mach_okL ts _ stk many l h ((okL_app _ _ _).2 ⟨g1,by simp only [okL];exact ⟨w1,trivial⟩⟩) ((rgL_app _ _).2 ⟨g2,by simp only [rgL];exact ⟨w2,trivial⟩⟩) g5
          · cases h
      · split at h
        · cases h
        · split at h
          · next hop =>
            split at h
            · cases h
            · next hl =>
              have hs : stk.length < 50 ∨ 50 < stk.length:=by omega
              rcases hs with hs|hs
              · exact mach_okL ts [] ((cur,opnN c ln cl []) :: stk) (many + 1) l h (by simp [okL]) (by simp [rgL]) ⟨h1,h2,hs,opn_ok c hop.2 ln cl,h3⟩
              · exfalso
                cases stk with
                | nil=>simp at hs
                | cons x stk =>
                  have:=h3.2.2.1
                  simp only [List.length_cons] at hs
                  omega
          · cases hlf : leafT (c :: r) with
            | none=>rw [hlf] at h;cases h
            | some x =>
              rw [hlf] at h
              simp only at h
              obtain ⟨w1,w2⟩:=leaf_ok hlf stk.length ln cl
              exact mach_okL ts _ stk (many + 1) l h ((okL_app _ _ _).2 ⟨h1,by simp only [okL];exact ⟨w1,trivial⟩⟩) ((rgL_app _ _).2 ⟨h2,by simp only [rgL];exact ⟨w2,trivial⟩⟩) h3
mutual
theorem wtN_ok : (x : Nd) → (d : Nat) → okN d x → wtN x ≤ 4064 * nsz x
  | .mk k vk vn vs s kids ln cl,d,h=>by
    rw [okN] at h
    rw [wtN,nsz]
    rcases h with ⟨_,_,rfl,rfl⟩ | ⟨_,hn,_,rfl⟩ | ⟨_,rfl,_,_,hl⟩
    · simp only [wtL,nszL,List.length_nil];omega
    · have:=hn.2.1;simp only [wtL,nszL];omega
    · have:=wtL_ok kids (d + 1) hl;simp only [List.length_nil];omega
theorem wtL_ok : (l : List Nd) → (d : Nat) → okL d l → wtL l ≤ 4064 * nszL l
  | [],d,h=>by simp [wtL]
  | x :: l,d,h=>by
    rw [okL] at h
    have h1:=wtN_ok x d h.1
    have h2:=wtL_ok l d h.2
    rw [wtL,nszL];omega
end
theorem read_fit {s : List UInt8} {l : List Nd} (h : mach leafT (toks s 1 1 false) [] [] 0 = .ok l) (hn : nszL l ≤ 5000) : okP l ∧ Fit l:=by
  obtain ⟨h1,h2⟩:=mach_okL _ _ _ _ _ h (by simp [okL]) (by simp [rgL]) trivial
  have:=wtL_ok l 0 h1
  exact ⟨⟨h1,hn⟩,h2,by omega,by omega⟩
mutual
theorem okN_era : (x : Nd) → (d : Nat) → (okN d (era x) ↔ okN d x)
  | .mk k vk vn vs s kids ln cl,d=>by
    rw [era,okN,okN,okL_era kids (d + 1)]
    have e : eraL kids = [] ↔ kids = []:=by cases kids <;> simp [eraL]
    rw [e]
theorem okL_era : (l : List Nd) → (d : Nat) → (okL d (eraL l) ↔ okL d l)
  | [],d=>by rw [eraL]
  | x :: l,d=>by rw [eraL,okL,okL,okN_era x d,okL_era l d]
end
theorem isE_era (l : List Nd) : (eraL l).isEmpty = l.isEmpty:=by cases l <;> rfl
mutual
theorem prN_era : (x : Nd) → prN (era x) = prN x
  | .mk k vk vn vs s kids ln cl=>by rw [era,prN,prN,prK_era kids]
theorem prK_era : (l : List Nd) → prK (eraL l) = prK l
  | []=>by rw [eraL]
  | x :: l=>by rw [eraL,prK,prK,prN_era x,prK_era l,isE_era]
end
theorem prS_era (sep : List UInt8) : (l : List Nd) → prS sep (eraL l) = prS sep l
  | []=>by rw [eraL]
  | x :: l=>by rw [eraL,prS,prS,prN_era x,prS_era sep l,isE_era]
mutual
theorem nsz_era : (x : Nd) → nsz (era x) = nsz x
  | .mk k vk vn vs s kids ln cl=>by rw [era,nsz,nsz,nszL_era kids]
theorem nszL_era : (l : List Nd) → nszL (eraL l) = nszL l
  | []=>by rw [eraL]
  | x :: l=>by rw [eraL,nszL,nszL,nsz_era x,nszL_era l]
end
mutual
theorem rgN_era : (x : Nd) → (rgN (era x) ↔ rgN x)
  | .mk k vk vn vs s kids ln cl=>by rw [era,rgN,rgN,rgL_era kids]
theorem rgL_era : (l : List Nd) → (rgL (eraL l) ↔ rgL l)
  | []=>by rw [eraL]
  | x :: l=>by rw [eraL,rgL,rgL,rgN_era x,rgL_era l]
end
theorem era_same {l m : List Nd} (h : eraL l = eraL m) (hok : okP l) (hf : Fit l) : okP m ∧ Fit m ∧ ∀ sep,prS sep m = prS sep l:=by
  have h1 : okL 0 m:=(okL_era m 0).1 (h ▸ (okL_era l 0).2 hok.1)
  have h2 : nszL m = nszL l:=by rw [← nszL_era m,← h,nszL_era]
  have h3 : rgL m:=(rgL_era m).1 (h ▸ (rgL_era l).2 hf.rg)
  have h4:=wtL_ok m 0 h1
  have h5:=hok.2
  exact ⟨⟨h1,by omega⟩,⟨h3,by omega,by omega⟩,fun sep=>by rw [← prS_era sep m,← h,prS_era]⟩
end Go.Proofs.Wr

namespace Go.Proofs.Wr
open Go.AL Go.Txt
attribute [local irreducible] Go.AL.W Go.AL.WL Go.AL.WD Go.AL.POp Go.AL.PPOp Go.AL.POpS Go.AL.PC Go.AL.AC Go.AL.YW Go.AL.Ret Go.AL.Le Go.AL.thn Go.AL.inBlk Go.AL.scp
theorem all_w [GlobF Tryd.prog] (hpw : PowOK) : ∀ N,N < 9223372036854775806 → ListW N
  | 0,h=>list_w 0 (fun x _ _ _ _ _ _ _ _ hn=>absurd hn (by have:=nsz_pos x;omega)) (by omega)
  | N + 1,h=>list_w (N + 1) (node_w hpw N (all_w hpw N (by omega)) (by omega)) (by omega)
abbrev wH0 : List AObj:=[.cells (wC (.sc (.pointer none)) 1 [] 0 0 false) (some wT),.tail 0 1 5]
theorem ws0 : WS wH0 wH0 0 1 (.sc (.pointer none)) [] 0 0 false :=
  ⟨Nat.le_refl _,fun _ _ _ _=>rfl,by decide,by decide,rfl,rfl,.inl rfl⟩
set_option maxHeartbeats 8000000 in
theorem print_pc [GlobF Tryd.prog] (hpw : PowOK) (l : List Nd) (hf : Fit l) :
    (okP l → PC Tryd.prog 19 [.sl none 8 (ndCs l)] (.tu [str (prS [32] l),i64 0])) ∧ (¬ okP l → PC Tryd.prog 19 [.sl none 8 (ndCs l)] (.tu [str [],i64 2])):=by
  have hcall:=all_w hpw _ hf.n l [32] 0 0 [] _ _ _ 0 1 (Nat.le_refl _) (by decide) hf.rg ws0 (by decide) (by decide) (by have:=hf.wt;simpa using Nat.lt_trans this (by decide))
  have hl:=fun h : okP l=>prS_len (by decide : ([32] : List UInt8).length ≤ 1) h.1 hf.rg
  have hw:=hf.wt
  refine ⟨fun hok=>?_,fun hok=>?_⟩
  · have hl:=hl hok
    refine PC.of_body Tryd.func19 Tryd.ntmps19 rfl rfl rfl ?_
    repeat' first
 | (refine m_boxT rfl rfl rfl ?_;refine WL_adoptC 0 1 1 5 rfl rfl ?_)
 | (refine p1L (D_loadB1 rfl hS.box rfl) rfl ?_)
 | (apply p1 (hd:=rfl);case hop=>first|(apply D_move;rfl)|(apply D_assign;rfl)|exact D_build rfl|exact D_fldB rfl|(apply D_nilB;rfl))
 | refine W_seq ?_
 | refine W_region ?_
 | (refine idC ?_;first|refine c1 rfl ?_|refine c0 rfl ?_)
 | refine WL_nil ?_
 | refine tn ?_
 | refine tr ?_
 | refine W_skip ?_
 | refine W_ret ?_
 | (refine idR ?_;refine ret2 rfl rfl rfl rfl ?_ ?_)
 | refine Le.int ?_
 | refine Le.str ?_
 | (refine m_call (d:=9) hcall rfl rfl rfl ?_;rintro _ K ⟨rfl,(⟨hok2,hle2,pa2,hS⟩ | ⟨hno2,pa2,b2,m2,hb2,hS⟩)⟩)
 | (refine m_call (d:=17) (bstr_ac (hS.bld (by simp only [List.nil_append];omega))) rfl rfl rfl ?_;rintro _ _ ⟨rfl,rfl⟩)
    all_goals first
      | rfl
      | exact absurd ⟨hok.1,by simpa using hok.2⟩ hno2
      | trace_state
  · refine PC.of_body Tryd.func19 Tryd.ntmps19 rfl rfl rfl ?_
    repeat' first
 | (refine m_boxT rfl rfl rfl ?_;refine WL_adoptC 0 1 1 5 rfl rfl ?_)
 | (refine p1L (D_loadB1 rfl hS.box rfl) rfl ?_)
 | (apply p1 (hd:=rfl);case hop=>first|(apply D_move;rfl)|(apply D_assign;rfl)|exact D_build rfl|exact D_fldB rfl|(apply D_nilB;rfl))
 | refine W_seq ?_
 | refine W_region ?_
 | (refine idC ?_;first|refine c1 rfl ?_|refine c0 rfl ?_)
 | refine WL_nil ?_
 | refine tn ?_
 | refine tr ?_
 | refine W_skip ?_
 | refine W_ret ?_
 | (refine idR ?_;refine ret2 rfl rfl rfl rfl ?_ ?_)
 | refine Le.int ?_
 | refine Le.str ?_
 | (refine m_call (d:=9) hcall rfl rfl rfl ?_;rintro _ K ⟨rfl,(⟨hok2,hle2,pa2,hS⟩ | ⟨hno2,pa2,b2,m2,hb2,hS⟩)⟩)
    all_goals first
      | rfl
      | exact absurd ⟨hok2,by simpa using hle2⟩ hok
      | trace_state
set_option maxHeartbeats 8000000 in
theorem lines_pc [GlobF Tryd.prog] (hpw : PowOK) (l : List Nd) (hf : Fit l) :
    (okP l → PC Tryd.prog 20 [.sl none 8 (ndCs l)] (.tu [str (prS [10] l ++ if l.isEmpty then [] else [10]),i64 0])) ∧ (¬ okP l → PC Tryd.prog 20 [.sl none 8 (ndCs l)] (.tu [str [],i64 2])):=by
  have hcall:=all_w hpw _ hf.n l [10] 0 0 [] _ _ _ 0 1 (Nat.le_refl _) (by decide) hf.rg ws0 (by decide) (by decide) (by have:=hf.wt;simpa using Nat.lt_trans this (by decide))
  have hl:=fun h : okP l=>prS_len (by decide : ([10] : List UInt8).length ≤ 1) h.1 hf.rg
  have hw:=hf.wt
  have hcl : (ndCs l).length = l.length:=ndCs_len _
  refine ⟨fun hok=>?_,fun hok=>?_⟩
  · have hl:=hl hok
    have hab : ¬ ¬ (okL 0 l ∧ 0 + nszL l ≤ 5000):=fun h=>h ⟨hok.1,by simpa using hok.2⟩
    refine PC.of_body Tryd.func20 Tryd.ntmps20 rfl rfl rfl ?_
    repeat' first
 | (refine m_boxT rfl rfl rfl ?_;refine WL_adoptC 0 1 1 5 rfl rfl ?_)
 | (refine p1L (D_loadB1 rfl hS.box rfl) rfl ?_)
 | (apply p1 (hd:=rfl);case hop=>first|(apply D_move;rfl)|(apply D_assign;rfl)|(apply D_int;rfl;rfl;rfl)|(apply D_len_sl;rfl)|exact D_build rfl|exact D_fldB rfl|(apply D_nilB;rfl))
 | refine W_seq ?_
 | refine W_region ?_
 | (refine idC ?_;first|refine c1 rfl ?_|refine c0 rfl ?_|refine cs rfl (fun _=>?_) (fun _=>?_))
 | refine WL_nil ?_
 | refine tn ?_
 | refine tr ?_
 | refine W_skip ?_
 | refine W_ret ?_
 | (refine idR ?_;refine ret2 rfl rfl rfl rfl ?_ ?_)
 | refine Le.int ?_
 | refine Le.str ?_
 | (refine m_call (d:=9) hcall rfl rfl rfl ?_;rintro _ K ⟨rfl,(⟨hok2,hle2,pa2,hS⟩ | ⟨hno2,pa2,b2,m2,hb2,hS⟩)⟩)
 | (refine m_call (d:=20) (wbyte_ac (n:=5) rfl (hS.bld (by simp only [List.nil_append];omega)) 10) rfl rfl rfl ?_;rintro _ K ⟨rfl,hK⟩;have hS:=WS.wr hS hK)
 | (refine m_call (d:=24) (bstr_ac (hS.bld (by simp only [List.nil_append,List.length_append,List.length_cons,List.length_nil];omega))) rfl rfl rfl ?_;rintro _ _ ⟨rfl,rfl⟩)
    all_goals first
      | rfl
      | (exfalso;exact hab hno2)
      | (have e1 : l.isEmpty = false:=Bool.eq_false_iff.2 (fun e=>by have h2:=congrArg List.length (List.isEmpty_iff.1 e);rw [List.length_nil] at h2;omega)
         rw [e1];simp;done)
      | (have e1 : l.isEmpty = true:=by rw [List.isEmpty_iff];exact List.length_eq_zero_iff.1 (by omega)
         rw [e1];simp;done)
      | trace_state
  · refine PC.of_body Tryd.func20 Tryd.ntmps20 rfl rfl rfl ?_
    repeat' first
 | (refine m_boxT rfl rfl rfl ?_;refine WL_adoptC 0 1 1 5 rfl rfl ?_)
 | (refine p1L (D_loadB1 rfl hS.box rfl) rfl ?_)
 | (apply p1 (hd:=rfl);case hop=>first|(apply D_move;rfl)|(apply D_assign;rfl)|(apply D_int;rfl;rfl;rfl)|(apply D_len_sl;rfl)|exact D_build rfl|exact D_fldB rfl|(apply D_nilB;rfl))
 | refine W_seq ?_
 | refine W_region ?_
 | (refine idC ?_;first|refine c1 rfl ?_|refine c0 rfl ?_|refine cs rfl (fun _=>?_) (fun _=>?_))
 | refine WL_nil ?_
 | refine tn ?_
 | refine tr ?_
 | refine W_skip ?_
 | refine W_ret ?_
 | (refine idR ?_;refine ret2 rfl rfl rfl rfl ?_ ?_)
 | refine Le.int ?_
 | refine Le.str ?_
 | (refine m_call (d:=9) hcall rfl rfl rfl ?_;rintro _ K ⟨rfl,(⟨hok2,hle2,pa2,hS⟩ | ⟨hno2,pa2,b2,m2,hb2,hS⟩)⟩)
    all_goals first
      | rfl
      | exact absurd ⟨hok2,by simpa using hle2⟩ hok
      | trace_state
end Go.Proofs.Wr

namespace Go.Proofs.Rd
open Go.AL Go.Txt
attribute [local irreducible] Go.AL.W Go.AL.WL Go.AL.WD Go.AL.POp Go.AL.PPOp Go.AL.POpS Go.AL.PC Go.AL.AC Go.AL.YW Go.AL.Ret Go.AL.Le Go.AL.thn Go.AL.inBlk Go.AL.scp
abbrev i64 (n : Int) : AV:=.sc (.int .i64 n)
theorem u34 {c : UInt8} : (c.toNat : Int) = 34 ↔ c = 34:=by rw [← UInt8.toNat_inj];show _ ↔ c.toNat = 34;omega
theorem blank_b (c : UInt8) : blankB c = true ↔ (c.toNat : Int) = 32 ∨ (c.toNat : Int) = 9 ∨ (c.toNat : Int) = 10 ∨ (c.toNat : Int) = 13:=by
  simp only [blankB,Bool.or_eq_true,beq_iff_eq,← UInt8.toNat_inj]
  show ((c.toNat = 32 ∨ c.toNat = 9) ∨ c.toNat = 10) ∨ c.toNat = 13 ↔ _
  omega
end Go.Proofs.Rd
