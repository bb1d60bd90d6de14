/- Contracts of datoms' keys: read; prefixes. -/
import Derived.Test.YtjojdiefnhbglaaGreatYD1
set_option linter.all false
namespace Go.Proofs
open Go.AL Go.Sort
attribute [local irreducible] Go.AL.W Go.AL.WL Go.AL.WD Go.AL.POp Go.AL.PPOp Go.AL.POpS Go.AL.PC Go.AL.AC Go.AL.YW Go.AL.Ret Go.AL.Le Go.AL.thn Go.AL.inBlk Go.AL.scp
instance : Xt Tryz.prog 252 Extern.BytealgCompare.compare:=⟨run_callFunc_extern Tryz.func252 (by kernel_rfl) (by kernel_rfl) (by kernel_rfl) (by kernel_rfl)⟩
instance (p : Prop) : BP (dP p) p (¬ p):=⟨fun h=>by rwa [dP_t] at h,fun h=>by rwa [dP_f] at h⟩
instance (s : List UInt8) : BP (wordB s) (WordP s) (¬ WordP s):=⟨fun h=>by unfold wordB at h;simpa using h,fun h=>by unfold wordB at h;simpa using h⟩
instance (v : Val) : BP (mayB v) (MayP v) (¬ MayP v):=⟨fun h=>by unfold mayB at h;rwa [dP_t] at h,fun h=>by unfold mayB at h;rwa [dP_f] at h⟩
def kinds (o : Int) (l : List Prt) : Prop:=∀ (i : Nat) (h : i < l.length) (h7 : i < 7),l[i].value = ((part7 o dat0)[i]'h7).value
def preP (o : Int) (l : List Prt) : Prop:=(1 ≤ o ∧ o ≤ 4) ∧ l.length ≤ 4 ∧ kinds o l
open Classical in
noncomputable def preE (o : Int) (l : List Prt) : Int:=if preP o l then keyE l else 2
open Classical in
noncomputable def preB (o : Int) (l : List Prt) : List UInt8:=if preP o l then keyB l else []
set_option maxHeartbeats 4000000 in
theorem prefix_pc [GlobF Tryz.prog] (o : Int) (l : List Prt) (hl : l.length < 9223372036854775808) (hs : ∀ p,p ∈ l → p.v.s.length < 9223372036854775808) :
    PC Tryz.prog 43 [.sc (.int .i64 o),.sl none 5 (l.map pC)] (.tu [.sl none 1 ((preB o l).map byteC),.sc (.int .i64 (preE o l))]):=by
  refine PC.of_body Tryz.func43 Tryz.ntmps43 rfl rfl rfl ?_
  repeat' first
 | (apply p1 (hd:=rfl);case hop=>first|(apply D_move;rfl)|(apply D_pc (is_pc o);rfl;exact .same rfl .nil)|(apply D_pc (parts_pc o dat0);rfl;exact .same rfl (.same rfl .nil))|(apply D_load1;rfl)|(apply D_pickT;rfl;rfl)|(apply D_pickF;rfl;rfl)|(apply D_int;rfl;rfl;rfl)|(apply D_lenM;rfl)|(apply D_not;rfl)|(apply D_box;rfl;rfl)|exact D_build rfl)
 | refine W_seq ?_
 | refine W_region ?_
 | (refine idC ?_;first|refine c1 rfl ?_|refine cs rfl (fun _=>?_) (fun _=>?_))
 | refine WL_nil ?_
 | (refine idG ?_;first|refine g0f rfl rfl rfl ?_|refine gr rfl rfl ?_|refine gs rfl rfl (fun _=>?_) (fun _=>?_))
 | refine tn ?_
 | refine tr ?_
 | refine W_skip ?_
 | refine W_block ?_
 | refine W_ret ?_
 | (refine idR ?_;first|refine rL2 rfl (by first|exact trivial|exact ⟨rfl,trivial⟩) (by exact ResO.cellB1 rfl rfl rfl) (by exact ResO.cellB1 rfl rfl rfl) ?_ ?_)
 | (refine idA ?_;refine m_alloc rfl ?_)
 | (refine idS ?_;refine pS (S_store rfl rfl rfl rfl rfl rfl rfl) ?_)
 | (refine Le.int ?_)
  · rename_i h1
    rw [show preB o l = [] by simp only [preB,preP,h1,false_and,if_false]];exact Le.nil rfl
  · rename_i h1
    simp only [preE,preP,h1,false_and,if_false]
  · rename_i h1 h2
    rw [show preB o l = [] by rw [preB,if_neg fun h=>by have:=h.2.1;omega]];exact Le.nil rfl
  · rename_i h1 h2
    rw [preE,if_neg fun h=>by have:=h.2.1;omega]
  rename_i h1 h2
  refine W_range (.inl rfl) fun r=>?_
  refine parts1_acC o dat0 r (fun i=>∀ (j : Nat) (h : j < l.length) (h7 : j < 7),j < i → l[j].value = ((part7 o dat0)[j]'h7).value) (fun j h h7 hj=>absurd hj (Nat.not_lt_zero j)) ?_ ?_
  · intro i hi hc
    refine YW.round (r:=3) rfl rfl rfl ?_
    repeat' first
 | (apply p1 (hd:=rfl);case hop=>first|(apply D_assign;rfl))
 | refine W_seq ?_
 | refine W_region ?_
 | refine WL_nil ?_
 | refine tn ?_
 | (refine idA ?_;refine m_var rfl rfl rfl rfl rfl rfl rfl ?_)
    refine ⟨rfl,rfl,?_⟩
    repeat' first
 | refine W_seq ?_
 | refine W_region ?_
 | (refine idC ?_;first|refine c0 rfl ?_|refine cs rfl (fun _=>?_) (fun _=>?_))
 | refine WL_nil ?_
 | refine tn ?_
 | refine br ?_
 | refine bn ?_
 | refine W_skip ?_
 | refine W_block ?_
 | refine W_ret ?_
 | (refine idS ?_;refine pS (S_store rfl rfl rfl rfl rfl rfl rfl) ?_)
 | (refine idW ?_;refine W_draw0 rfl ?_)
 | (apply d1 (hd:=rfl);case hop=>first|(apply D_move;rfl)|(apply D_load1;rfl)|(apply D_fld;rfl)|(apply D_pickT;rfl;rfl)|(apply D_pickF;rfl;rfl)|(apply D_int;rfl;rfl;rfl)|(apply D_lenM;rfl)|(apply D_bne;rfl;rfl)|(apply D_idxAn;rfl;rfl;(first|omega|(simp;done))))
 | (refine idDg ?_;first|refine dg0t rfl rfl rfl ?_|refine dgr rfl rfl ?_|refine dgs rfl rfl (fun _=>?_) (fun _=>?_))
 | (refine WD_nil (by first|decide +kernel|kernel_rfl|rfl) ?_)
    · rename_i h3 h4
      refine ⟨rfl,⟨_,_,rfl⟩,.inr ⟨rfl,_,_,rfl,by decide,?_⟩⟩
      have hn : ¬ preP o l:=fun h=>h4 (h.2.2 i (by omega) hi)
      repeat' first
 | refine tr ?_
 | refine br ?_
 | (refine idR ?_;first|refine rL2 rfl (by first|exact trivial|exact ⟨rfl,trivial⟩) (by exact ResO.cellB1 rfl rfl rfl) (by exact ResO.cellB1 rfl rfl rfl) ?_ ?_)
 | (refine Le.int ?_)
      · rw [show preB o l = [] by rw [preB,if_neg hn]];exact Le.nil rfl
      · rw [preE,if_neg hn]
    · rename_i h3 h4
      refine ⟨rfl,⟨_,_,rfl⟩,.inl ⟨rfl,rfl,fun j h h7 hj=>?_⟩⟩
      by_cases e : j = i
      · subst e;exact h4
      · exact hc j h h7 (by omega)
    · rename_i h3
      exact ⟨rfl,⟨_,_,rfl⟩,.inl ⟨rfl,rfl,fun j h h7 hj=>hc j h h7 (by omega)⟩⟩
  · intro hc
    refine ⟨_,_,rfl,by decide,?_⟩
    have hp : preP o l:=⟨h1,by omega,fun j h h7=>hc j h h7 h7⟩
    repeat' first
 | (apply p1 (hd:=rfl);case hop=>first|(apply D_pc (key_pc l (by omega) hs);rfl;exact .same rfl .nil)|(apply D_load1;rfl)|(apply D_ext;rfl;rfl))
 | refine W_seq ?_
 | refine W_region ?_
 | refine WL_nil ?_
 | refine tn ?_
 | refine bn ?_
 | refine W_ret ?_
 | (refine idR ?_;first|refine rL2 rfl (by first|exact trivial|exact ⟨rfl,trivial⟩) (by exact ResO.cellB1 rfl rfl rfl) (by exact ResO.cellB1 rfl rfl rfl) ?_ ?_)
 | (refine idS ?_;refine pS (S_store rfl rfl rfl rfl rfl rfl rfl) ?_)
 | (refine Le.int ?_)
    · rw [show preB o l = keyB l by rw [preB,if_pos hp]];exact Le.of_eq rfl
    · rw [preE,if_pos hp]
abbrev rdC (b : List UInt8) (bad : Bool) : AObj:=.cells [.sl none 1 (b.map byteC),.sc (.bool bad)]
def takeX (b : List UInt8) (bad : Bool) (n : Nat) : Bool:=bad || decide (b.length < n)
def takeV (b : List UInt8) (bad : Bool) (n : Nat) : List UInt8:=if takeX b bad n then List.replicate n 0 else b.take n
def takeB (b : List UInt8) (bad : Bool) (n : Nat) : List UInt8:=if takeX b bad n then b else b.drop n
set_option maxHeartbeats 4000000 in
theorem take_ac [GlobF Tryz.prog] {h : List AObj} {r n : Nat} {b : List UInt8} {bad : Bool} (hr : h[r]? = some (rdC b bad)) (hn : n < 1000) :
    AC Tryz.prog 236 [.bp r 0,.sc (.int .i64 (n : Int))] h (fun v h'=>v = .sl none 1 ((takeV b bad n).map byteC) ∧ h' = h.set r (rdC (takeB b bad n) (takeX b bad n))):=by
  refine AC.of_body Tryz.func236 Tryz.ntmps236 rfl rfl rfl ?_
  repeat' first
 | (apply p1 (hd:=rfl);case hop=>first|(apply D_move;rfl)|(apply D_assign;rfl)|(apply D_pickT;rfl;rfl)|(apply D_pickF;rfl;rfl)|(apply D_int;rfl;rfl;rfl)|(apply D_lenM;rfl)|(apply D_slVhM;rfl;rfl;all_goals first|omega|((repeat rw [w64 _ (by omega) (by omega)]);omega)|decide)|(apply D_slVlM;rfl;rfl;all_goals first|omega|((repeat rw [w64 _ (by omega) (by omega)]);omega)|decide)|exact D_fldB rfl|(apply D_nilB;rfl)|(apply D_mkB;rfl;rfl;all_goals first|omega|((repeat rw [w64 _ (by omega) (by omega)]);omega)|decide))
 | refine W_seq ?_
 | refine W_region ?_
 | (refine idC ?_;first|refine c1 rfl ?_|refine cs rfl (fun _=>?_) (fun _=>?_))
 | refine WL_nil ?_
 | (refine idG ?_;first|refine g0f rfl rfl rfl ?_|refine gr rfl rfl ?_|refine gs rfl rfl (fun _=>?_) (fun _=>?_))
 | refine tn ?_
 | refine tr ?_
 | refine W_skip ?_
 | refine W_ret ?_
 | (refine idLd ?_;first|refine p1L (D_loadB1 rfl (by (repeat first|assumption|exact get_last|(refine get_last2 ?_;focus (simp;done))|apply get_set|apply get_app|(apply get_ne;focus omega)|(apply get_ne;focus (simp only [List.length_set,List.length_append,List.length_cons,List.length_nil];omega)));done) (by rfl)) rfl ?_)
 | (refine idS ?_;first|refine pS (S_store rfl rfl rfl (by (repeat first|assumption|exact get_last|(refine get_last2 ?_;focus (simp;done))|apply get_set|apply get_app|(apply get_ne;focus omega)|(apply get_ne;focus (simp only [List.length_set,List.length_append,List.length_cons,List.length_nil];omega)));done) (by rfl) (by rfl) (by rfl)) ?_)
  all_goals
    refine retK1 (.inl rfl) rfl rfl (ResO.tmp rfl) ?_
  · rename_i h1
    have hx : takeX b bad n = true:=by simp [takeX,h1]
    rw [takeV,takeB,hx,if_pos rfl,if_pos rfl]
    exact ⟨rfl,rfl⟩
  · rename_i h1 h2
    have hx : takeX b bad n = true:=by simp [takeX,h1];omega
    rw [takeV,takeB,hx,if_pos rfl,if_pos rfl]
    exact ⟨rfl,rfl⟩
  · rename_i h1 h2
    have hx : takeX b bad n = false:=by simp [takeX,h1];omega
    rw [takeV,takeB,hx,if_neg Bool.false_ne_true,if_neg Bool.false_ne_true]
    subst h1
    exact ⟨rfl,rfl⟩
def numR (l : List UInt8) : Nat:=l.foldl (fun v c=>(v * 256 + c.toNat) % 18446744073709551616) 0
def numV (l : List UInt8) : Int:=IntKind.i64.wrap (((numR l + 9223372036854775808) % 18446744073709551616 : Nat) : Int)
theorem numR_lt (l : List UInt8) : numR l < 18446744073709551616:=by
  unfold numR
  suffices h : ∀ (l : List UInt8) (v : Nat),v < 18446744073709551616 → l.foldl (fun v c=>(v * 256 + c.toNat) % 18446744073709551616) v < 18446744073709551616 from h l 0 (by decide)
  intro l
  induction l with
  | nil=>exact fun v h=>h
  | cons c l ih=>exact fun v h=>ih _ (Nat.mod_lt _ (by decide))
theorem numR_succ (l : List UInt8) (i : Nat) (h : i < l.length) : numR (l.take (i + 1)) = (numR (l.take i) * 256 + l[i].toNat) % 18446744073709551616:=by
  unfold numR
  rw [List.take_succ_eq_append_getElem h,List.foldl_append];rfl
theorem shor (v c : Nat) (hv : v < 18446744073709551616) (hc : c < 256) :
    IntKind.u64.wrap ((BitVec.ofInt IntKind.u64.bits (IntKind.u64.wrap ((v : Int) * 2 ^ (min (8 : Int).toNat IntKind.u64.bits))) ||| BitVec.ofInt IntKind.u64.bits (IntKind.u64.wrap (c : Int))).toNat : Int) = (((v * 256 + c) % 18446744073709551616 : Nat) : Int):=by
  have e0 : IntKind.u64.wrap ((v : Int) * 2 ^ (min (8 : Int).toNat IntKind.u64.bits)) = ((v * 256 % 18446744073709551616 : Nat) : Int):=by
    have : (2 : Int) ^ (min (8 : Int).toNat IntKind.u64.bits) = 256:=by decide
    rw [this]
    simp only [IntKind.wrap,IntKind.bits,IntKind.signed,Bool.false_and,Bool.false_eq_true,if_false]
    omega
  have e1 : IntKind.u64.wrap (c : Int) = (c : Int):=u64w c (by omega)
  have hm : v * 256 % 18446744073709551616 < 18446744073709551616:=Nat.mod_lt _ (by decide)
  rw [e0,e1,BitVec.toNat_or,show (BitVec.ofInt IntKind.u64.bits ((v * 256 % 18446744073709551616 : Nat) : Int)).toNat = v * 256 % 18446744073709551616 by (simp [IntKind.bits];omega),show (BitVec.ofInt IntKind.u64.bits (c : Int)).toNat = c by simp [IntKind.bits];omega]
  have h2 : v * 256 % 18446744073709551616 = 2 ^ 8 * (v % 72057594037927936):=by omega
  have h3:=Nat.two_pow_add_eq_or_of_lt (i:=8) (b:=c) (by omega) (v % 72057594037927936)
  rw [h2,← h3]
  have h4 : 2 ^ 8 * (v % 72057594037927936) + c = (v * 256 + c) % 18446744073709551616:=by omega
  rw [h4]
  exact u64w _ (Nat.mod_lt _ (by decide))
set_option maxHeartbeats 4000000 in
theorem rnum_ac [GlobF Tryz.prog] {h : List AObj} {r : Nat} {b : List UInt8} {bad : Bool} (hr : h[r]? = some (rdC b bad)) :
    AC Tryz.prog 216 [.bp r 0] h (fun v h'=>v = .sc (.int .i64 (numV (takeV b bad 8))) ∧ h' = h.set r (rdC (takeB b bad 8) (takeX b bad 8))):=by
  have hl : (takeV b bad 8).length = 8:=by
    unfold takeV takeX
    split
    · simp
    · rename_i h;simp at h;simp;omega
  refine AC.of_body Tryz.func216 Tryz.ntmps216 rfl rfl rfl ?_
  repeat' first
 | (apply p1 (hd:=rfl);case hop=>first|(apply D_move;rfl)|(apply D_assign;rfl)|(apply D_lenM;rfl))
 | refine W_seq ?_
 | refine W_region ?_
 | refine WL_nil ?_
 | refine tn ?_
 | refine W_block ?_
 | (refine m_call (take_ac hr (by decide)) rfl rfl rfl ?_;rintro _ _ ⟨rfl,rfl⟩)
  generalize takeV b bad 8 = l at *
  refine W_loopL (X:=Nat) (fun i=>[(3,.sc (.int .u64 (numR (l.take i) : Int))),(7,.sl none 1 (l.map byteC)),(8,.sc (.int .i64 (l.length : Int))),(9,.sc (.int .i64 (i : Int)))]) (fun _=>h.set r (rdC (takeB b bad 8) (takeX b bad 8)))
    (fun i=>i ≤ 8) (fun i=>8 - i) 0 (by omega) ⟨rfl,rfl,rfl,rfl,trivial⟩ rfl ?_
  intro i hi
  repeat' first
 | (apply p1 (hd:=rfl);case hop=>first|(apply D_move;rfl)|(apply D_assign;rfl)|(apply D_load1;rfl)|(apply D_int;rfl;rfl;rfl)|(apply D_conv_int;rfl)|(apply D_idxAn;rfl;rfl;(first|omega|(simp;done)))|(apply D_shl;rfl;rfl;first|omega|((repeat rw [w64 _ (by omega) (by omega)]);omega)|decide))
 | refine W_seq ?_
 | refine W_region ?_
 | (refine idC ?_;refine cs rfl (fun _=>?_) (fun _=>?_))
 | refine WL_nil ?_
 | refine tn ?_
 | refine bn ?_
 | refine te ?_
 | (refine idB ?_;refine bh rfl ?_)
 | refine W_skip ?_
 | refine W_block ?_
 | refine W_exit ?_
 | (refine W_ret ?_)
  · rename_i h1
    refine ⟨rfl,i + 1,by omega,by omega,⟨ieq ?_,rfl,rfl,ieq (wsucc i (by omega)),trivial⟩,rfl⟩
    rw [numR_succ l i (by omega)]
    exact shor _ _ (numR_lt _) (UInt8.toNat_lt _)
  · rename_i h1
    have : i = l.length:=by omega
    subst this
    rw [List.take_length] at *
    refine retK1 (.inl rfl) rfl rfl (ResO.tmp rfl) ⟨?_,rfl⟩
    have hV:=numR_lt l
    rw [BitVec.toNat_xor,show (BitVec.ofInt IntKind.u64.bits (numR l : Int)).toNat = numR l by simp [IntKind.bits];omega,show (BitVec.ofInt IntKind.u64.bits 9223372036854775808).toNat = 9223372036854775808 by decide,xor63 _ hV,u64w _ (Nat.mod_lt _ (by decide))]
    rfl
theorem sa {α : Type} {h l : List α} {r : Nat} {a b : α} (hlt : r < h.length) : (h.set r a ++ l).set r b = h.set r b ++ l:=by simp [List.set_append,hlt]
theorem sl1 {α : Type} {h : List α} {r : Nat} {a t t' : α} : (h.set r a ++ [t]).set h.length t' = h.set r a ++ [t']:=by simp [List.set_append]
def rdT : List UInt8 → List UInt8 × List UInt8 × Bool
  | []=>([],[],true)
  | [c]=>(if c = 0 then [] else [c],[],true)
  | c :: x :: b=>if c = 0 then (if x = 1 then ([],b,false) else if x = 255 then (let p:=rdT b;(0 :: p.1,p.2)) else ([],b,true)) else (let p:=rdT (x :: b);(c :: p.1,p.2))
def rdTx (b : List UInt8) (bad : Bool) : List UInt8 × List UInt8 × Bool:=if bad then ([],b,true) else rdT b
theorem rdT_cons (c : UInt8) (b : List UInt8) (h : c ≠ 0) : rdT (c :: b) = (c :: (rdT b).1,(rdT b).2):=by
  cases b with
  | nil=>simp [rdT,h]
  | cons x b=>simp [rdT,h]
def rdI (b0 : List UInt8) (bad0 : Bool) (x : List UInt8 × List UInt8 × Bool) : Prop :=
  if x.2.2 then rdTx b0 bad0 = x else rdTx b0 bad0 = (x.1 ++ (rdT x.2.1).1,(rdT x.2.1).2)
def rdM (x : List UInt8 × List UInt8 × Bool) : Nat:=2 * x.2.1.length + (if x.2.2 then 0 else 1)
theorem take1c_ac [GlobF Tryz.prog] {h : List AObj} {r : Nat} {c : UInt8} {t : List UInt8} (hr : h[r]? = some (rdC (c :: t) false)) :
    AC Tryz.prog 236 [.bp r 0,.sc (.int .i64 1)] h (fun v h'=>v = .sl none 1 [byteC c] ∧ h' = h.set r (rdC t false)):=by
  have:=take_ac (n:=1) hr (by decide)
  have hx : takeX (c :: t) false 1 = false:=by simp [takeX]
  rw [takeV,takeB,hx,if_neg Bool.false_ne_true,if_neg Bool.false_ne_true] at this
  exact this
theorem take1n_ac [GlobF Tryz.prog] {h : List AObj} {r : Nat} (hr : h[r]? = some (rdC [] false)) :
    AC Tryz.prog 236 [.bp r 0,.sc (.int .i64 1)] h (fun v h'=>v = .sl none 1 [byteC 0] ∧ h' = h.set r (rdC [] true)):=take_ac (n:=1) hr (by decide)
theorem take1b_ac [GlobF Tryz.prog] {h : List AObj} {r : Nat} {b : List UInt8} (hr : h[r]? = some (rdC b true)) :
    AC Tryz.prog 236 [.bp r 0,.sc (.int .i64 1)] h (fun v h'=>v = .sl none 1 [byteC 0] ∧ h' = h.set r (rdC b true)):=take_ac (n:=1) hr (by decide)
set_option maxHeartbeats 4000000 in
theorem rtext_ac0 [GlobF Tryz.prog] {h : List AObj} {r : Nat} {b : List UInt8} {bad : Bool} (hr : h[r]? = some (rdC b bad)) (hb : b.length < 549755813888) :
    AC Tryz.prog 237 [.bp r 0] h (fun v h'=>v = str (rdTx b bad).1 ∧ ∃ n,h' = h.set r (rdC (rdTx b bad).2.1 (rdTx b bad).2.2) ++ [.tail n 1 5]):=by
  have hlt:=get_lt hr
  refine AC.of_body Tryz.func237 Tryz.ntmps237 rfl rfl rfl ?_
  repeat' first
 | (apply p1 (hd:=rfl);case hop=>first|(apply D_assign;rfl))
 | refine W_seq ?_
 | refine W_region ?_
 | refine WL_nil ?_
 | refine tn ?_
 | refine W_block ?_
 | refine W_label ?_
 | (refine W_scope ?_)
  refine W_adopt 3 1 5 rfl ?_
  refine W_loopL (X:=List UInt8 × List UInt8 × Bool) (fun x=>[(0,.bp r 0),(3,.sl (some h.length) 1 (x.1.map byteC))]) (fun x=>h.set r (rdC x.2.1 x.2.2) ++ [.tail x.1.length 1 5])
    (fun x=>rdI b bad x ∧ x.1.length + x.2.1.length ≤ b.length) rdM ([],b,bad) ⟨by simp [rdI,rdTx];cases bad <;> simp,by simp⟩ ⟨rfl,rfl,trivial⟩ (by
      show h.set r (rdC b bad) ++ _ = _
      rw [set_self hr];rfl) ?_
  rintro ⟨dn,rest,bd⟩ ⟨hI,hlen⟩
  simp only at hI hlen
  repeat' first
 | (apply p1 (hd:=rfl);case hop=>first|(apply D_move;rfl)|(apply D_assign;rfl)|(apply D_not;rfl)|(apply D_b2s;rfl)|exact D_fldB rfl|(apply D_nilB;rfl))
 | refine W_seq ?_
 | refine W_region ?_
 | (refine idC ?_;refine cs rfl (fun _=>?_) (fun _=>?_))
 | refine WL_nil ?_
 | refine tn ?_
 | refine te ?_
 | (refine idB ?_;refine bh rfl ?_)
 | refine W_skip ?_
 | refine W_block ?_
 | refine W_exit ?_
 | refine W_ret ?_
 | refine sr ?_
 | (refine idLd ?_;first|refine p1L (D_loadB1 rfl (by (repeat first|assumption|exact get_last|(refine get_last2 ?_;focus (simp;done))|apply get_set|apply get_app|(apply get_ne;focus omega)|(apply get_ne;focus (simp only [List.length_set,List.length_append,List.length_cons,List.length_nil];omega)));done) (by rfl)) rfl ?_)
  · rename_i hbd
    simp only at hbd
    subst hbd
    have hd : dn.length ≤ b.length:=by omega
    rcases rest with _ | ⟨c,_ | ⟨x,t⟩⟩
    · repeat' first
 | (apply p1 (hd:=rfl);case hop=>first|(apply D_move;rfl)|(apply D_assign;rfl)|(apply D_load1;rfl)|(apply D_int;rfl;rfl;rfl)|(apply D_b2s;rfl)|(apply D_idxA0;rfl;rfl;omega;(first|omega|(simp;done)|(simp;omega)))|(apply D_lit;rfl;rfl;rfl;rfl)|exact D_fldB rfl|(apply D_nilB;rfl))
 | refine W_seq ?_
 | refine W_region ?_
 | (refine idC ?_;refine cs rfl (fun _=>?_) (fun _=>?_))
 | refine WL_nil ?_
 | refine tn ?_
 | refine bn ?_
 | refine te ?_
 | (refine idB ?_;first|refine bh rfl ?_|refine bm rfl ?_)
 | refine W_skip ?_
 | refine W_block ?_
 | refine W_exit ?_
 | refine W_ret ?_
 | refine sr ?_
 | (refine idS ?_;first|refine pS (S_store rfl rfl rfl (by (repeat first|assumption|exact get_last|(refine get_last2 ?_;focus (simp;done))|apply get_set|apply get_app|(apply get_ne;focus omega)|(apply get_ne;focus (simp only [List.length_set,List.length_append,List.length_cons,List.length_nil];omega)));done) (by rfl) (by rfl) (by rfl)) ?_)
 | (refine idAp ?_;refine m_app rfl rfl (by ((repeat first|assumption|exact get_last|(refine get_last2 ?_;focus (simp;done))|apply get_set|apply get_app|(apply get_ne;focus omega));done)) ?_ rfl rfl ?_ ?_ rfl ?_;(focus (simp;done));(focus (simp only [List.length_map,List.length_append,List.length_cons,List.length_nil];omega));(focus (simp only [List.length_map,List.length_append,List.length_cons,List.length_nil];omega)))
 | (refine m_call (d:=11) (take1n_ac (by (repeat first|assumption|apply get_set|apply get_app);done)) rfl rfl rfl ?_;rintro _ _ ⟨rfl,rfl⟩)
 | (refine m_call (d:=21) (take1b_ac (by (repeat first|assumption|apply get_set|apply get_app);done)) rfl rfl rfl ?_;rintro _ _ ⟨rfl,rfl⟩)
      all_goals first
        | (exfalso;rename_i hx _ _;exact absurd rfl hx)
        | (exfalso;rename_i hx;exact absurd rfl hx)
        | (exfalso;rename_i hx;exact absurd hx (by decide))
        | skip
      refine ⟨rfl,(dn,[],true),⟨?_,by simpa using hd⟩,by simp [rdM],⟨rfl,rfl,trivial⟩,?_⟩
      · simpa [rdI,rdT] using hI
      · simp only [sa hlt,sl1];rfl
    · repeat' first
 | (apply p1 (hd:=rfl);case hop=>first|(apply D_move;rfl)|(apply D_assign;rfl)|(apply D_load1;rfl)|(apply D_int;rfl;rfl;rfl)|(apply D_b2s;rfl)|(apply D_idxA0;rfl;rfl;omega;(first|omega|(simp;done)|(simp;omega)))|(apply D_lit;rfl;rfl;rfl;rfl)|exact D_fldB rfl|(apply D_nilB;rfl))
 | refine W_seq ?_
 | refine W_region ?_
 | (refine idC ?_;refine cs rfl (fun _=>?_) (fun _=>?_))
 | refine WL_nil ?_
 | refine tn ?_
 | refine bn ?_
 | refine te ?_
 | (refine idB ?_;first|refine bh rfl ?_|refine bm rfl ?_)
 | refine W_skip ?_
 | refine W_block ?_
 | refine W_exit ?_
 | refine W_ret ?_
 | refine sr ?_
 | (refine idS ?_;first|refine pS (S_store rfl rfl rfl (by (repeat first|assumption|exact get_last|(refine get_last2 ?_;focus (simp;done))|apply get_set|apply get_app|(apply get_ne;focus omega)|(apply get_ne;focus (simp only [List.length_set,List.length_append,List.length_cons,List.length_nil];omega)));done) (by rfl) (by rfl) (by rfl)) ?_)
 | (refine idAp ?_;refine m_app rfl rfl (by ((repeat first|assumption|exact get_last|(refine get_last2 ?_;focus (simp;done))|apply get_set|apply get_app|(apply get_ne;focus omega));done)) ?_ rfl rfl ?_ ?_ rfl ?_;(focus (simp;done));(focus (simp only [List.length_map,List.length_append,List.length_cons,List.length_nil];omega));(focus (simp only [List.length_map,List.length_append,List.length_cons,List.length_nil];omega)))
 | (refine m_call (d:=11) (take1c_ac (by (repeat first|assumption|apply get_set|apply get_app);done)) rfl rfl rfl ?_;rintro _ _ ⟨rfl,rfl⟩)
 | (refine m_call (d:=21) (take1n_ac (by (repeat first|assumption|apply get_set|apply get_app);done)) rfl rfl rfl ?_;rintro _ _ ⟨rfl,rfl⟩)
      all_goals first
        | (exfalso;rename_i hx _ _;exact absurd rfl hx)
        | (exfalso;rename_i hx;exact absurd rfl hx)
        | (exfalso;rename_i hx;exact absurd hx (by decide))
        | skip
      · rename_i h1
        have h0:=u8nz h1
        refine ⟨rfl,(dn ++ [c],[],false),⟨?_,by simpa using hlen⟩,by simp [rdM],⟨rfl,sleq (by simp),trivial⟩,?_⟩
        · simp only [rdI,rdT_cons c [] h0] at hI ⊢;simpa using hI
        · simp only [sa hlt,sl1];simp
      · rename_i h1 h2 h3
        have h0:=u8z h1
        refine ⟨rfl,(dn,[],true),⟨?_,by simpa using hd⟩,by simp [rdM],⟨rfl,rfl,trivial⟩,?_⟩
        · simpa [rdI,rdT,h0] using hI
        · simp only [sa hlt,sl1];rfl
    · repeat' first
 | (apply p1 (hd:=rfl);case hop=>first|(apply D_move;rfl)|(apply D_assign;rfl)|(apply D_load1;rfl)|(apply D_int;rfl;rfl;rfl)|(apply D_b2s;rfl)|(apply D_idxA0;rfl;rfl;omega;(first|omega|(simp;done)|(simp;omega)))|(apply D_lit;rfl;rfl;rfl;rfl)|exact D_fldB rfl|(apply D_nilB;rfl))
 | refine W_seq ?_
 | refine W_region ?_
 | (refine idC ?_;refine cs rfl (fun _=>?_) (fun _=>?_))
 | refine WL_nil ?_
 | refine tn ?_
 | refine bn ?_
 | refine te ?_
 | (refine idB ?_;first|refine bh rfl ?_|refine bm rfl ?_)
 | refine W_skip ?_
 | refine W_block ?_
 | refine W_exit ?_
 | refine W_ret ?_
 | refine sr ?_
 | (refine idS ?_;first|refine pS (S_store rfl rfl rfl (by (repeat first|assumption|exact get_last|(refine get_last2 ?_;focus (simp;done))|apply get_set|apply get_app|(apply get_ne;focus omega)|(apply get_ne;focus (simp only [List.length_set,List.length_append,List.length_cons,List.length_nil];omega)));done) (by rfl) (by rfl) (by rfl)) ?_)
 | (refine idAp ?_;refine m_app rfl rfl (by ((repeat first|assumption|exact get_last|(refine get_last2 ?_;focus (simp;done))|apply get_set|apply get_app|(apply get_ne;focus omega));done)) ?_ rfl rfl ?_ ?_ rfl ?_;(focus (simp;done));(focus (simp only [List.length_map,List.length_append,List.length_cons,List.length_nil];omega));(focus (simp only [List.length_map,List.length_append,List.length_cons,List.length_nil];omega)))
 | (refine m_call (d:=11) (take1c_ac (by (repeat first|assumption|apply get_set|apply get_app);done)) rfl rfl rfl ?_;rintro _ _ ⟨rfl,rfl⟩)
 | (refine m_call (d:=21) (take1c_ac (by (repeat first|assumption|apply get_set|apply get_app);done)) rfl rfl rfl ?_;rintro _ _ ⟨rfl,rfl⟩)
      all_goals first
        | (exfalso;rename_i hx _ _;exact absurd rfl hx)
        | (exfalso;rename_i hx;exact absurd rfl hx)
        | (exfalso;rename_i hx;exact absurd hx (by decide))
        | skip
      · rename_i h1
        have h0:=u8nz h1
        refine ⟨rfl,(dn ++ [c],x :: t,false),⟨?_,by simp at hlen ⊢;omega⟩,by simp [rdM],⟨rfl,sleq (by simp),trivial⟩,?_⟩
        · simp only [rdI,rdT_cons c _ h0] at hI ⊢;simpa using hI
        · simp only [sa hlt,sl1];simp
      · rename_i h1 h2
        have h0:=u8z h1
        have e : rdTx b bad = (dn,t,false):=by
          have : x = 1:=UInt8.toNat.inj (by show _ = 1;omega)
          subst this;subst h0
          simpa [rdI,rdT] using hI
        rw [e]
        refine retK1 (.inl rfl) rfl rfl (ResO.tmp rfl) ⟨rfl,dn.length,?_⟩
        first|(simp only [sa hlt,sl1];done)|(simp only [sa hlt,sl1];rfl)
      · rename_i h1 h2 h3
        have h0:=u8z h1
        have e : x = 255:=UInt8.toNat.inj (by show _ = 255;omega)
        subst e;subst h0
        refine ⟨rfl,(dn ++ [0],t,false),⟨?_,by simp at hlen ⊢;omega⟩,by simp [rdM];omega,⟨rfl,sleq (by simp),trivial⟩,?_⟩
        · simp only [rdI,rdT] at hI ⊢;simpa using hI
        · simp only [sa hlt,sl1];simp
      · rename_i h1 h2 h3
        have h0:=u8z h1
        have e1 : x ≠ 1:=fun e=>h2 (by rw [e];rfl)
        have e2 : x ≠ 255:=fun e=>h3 (by rw [e];rfl)
        subst h0
        refine ⟨rfl,(dn,t,true),⟨?_,by simp at hlen ⊢;omega⟩,by simp [rdM];omega,⟨rfl,rfl,trivial⟩,?_⟩
        · simp only [rdI,rdT,e1,e2] at hI ⊢;simpa using hI
        · simp only [sa hlt,sl1];rfl
  · rename_i hbd
    simp only at hbd
    subst hbd
    have e : rdTx b bad = (dn,rest,true):=by simpa [rdI] using hI
    rw [e]
    exact retK1 (.inl rfl) rfl rfl (ResO.tmp rfl) ⟨rfl,_,rfl⟩
theorem BdH.set {h : List AObj} {r : Nat} {o : AObj} (hb : BdH h) (ho : BdO h.length o) : BdH (h.set r o):=fun q hq=>by
  rw [List.length_set]
  rcases List.mem_or_eq_of_mem_set hq with h1|h1
  · exact hb q h1
  · subst h1;exact ho
theorem bd_bytes (n : Nat) (l : List UInt8) : BdA n (bytesAV l):=.sl (fun t e=>by cases e) fun e he x hx=>by
  obtain ⟨c,_,rfl⟩:=List.mem_map.1 he
  simp at hx;subst hx;exact .sc _
theorem bd_rdC (n : Nat) (b : List UInt8) (bad : Bool) : BdO n (rdC b bad):=fun x hx=>by
  simp only [List.mem_cons,List.not_mem_nil,or_false] at hx
  rcases hx with rfl|rfl
  · exact bd_bytes n b
  · exact .sc _
theorem rtext_ac [GlobF Tryz.prog] {h : List AObj} {r : Nat} {b : List UInt8} {bad : Bool} (hr : h[r]? = some (rdC b bad)) (hb : b.length < 549755813888) :
    AC Tryz.prog 237 [.bp r 0] h (fun v h'=>v = str (rdTx b bad).1 ∧ h' = h.set r (rdC (rdTx b bad).2.1 (rdTx b bad).2.2)):=by
  refine AC.cut (rtext_ac0 hr hb) ?_
  rintro hbd v h' ⟨rfl,n,rfl⟩
  exact ⟨_,_,rfl,by simp,BdH.set hbd (bd_rdC _ _ _),.sc _,rfl,rfl⟩
theorem rdT_len : ∀ (b : List UInt8),(rdT b).1.length ≤ b.length ∧ (rdT b).2.1.length ≤ b.length
  | []=>by simp [rdT]
  | [c]=>by simp only [rdT];split <;> simp
  | c :: x :: b=>by
    have h1:=rdT_len b
    have h2:=rdT_len (x :: b)
    simp only [rdT,List.length_cons] at *
    split
    · split
      · simp;omega
      · split <;> simp <;> omega
    · simp;omega
theorem rdTx_len (b : List UInt8) (bad : Bool) : (rdTx b bad).1.length ≤ b.length ∧ (rdTx b bad).2.1.length ≤ b.length:=by
  unfold rdTx;split
  · simp
  · exact rdT_len b
theorem takeB_len (b : List UInt8) (bad : Bool) (n : Nat) : (takeB b bad n).length ≤ b.length:=by
  unfold takeB;split <;> simp
def Ext (h h' : List AObj) : Prop:=∃ ex,h' = h ++ ex
theorem Ext.app {h h' l : List AObj} (e : Ext h h') : Ext h (h' ++ l):=by obtain ⟨ex,rfl⟩:=e;exact ⟨ex ++ l,by simp⟩
theorem Ext.setOut {h h' : List AObj} {i : Nat} {a : AObj} (hi : h.length ≤ i) (e : Ext h h') : Ext h (h'.set i a):=by
  obtain ⟨ex,rfl⟩:=e;exact ⟨ex.set (i - h.length) a,by rw [List.set_append_right _ _ hi]⟩
def ExtX (r : Nat) (h h' : List AObj) : Prop:=h.length ≤ h'.length ∧ ∀ i,i < h.length → i ≠ r → h'[i]? = h[i]?
theorem ExtX.refl (r : Nat) (h : List AObj) : ExtX r h h:=⟨Nat.le_refl _,fun _ _ _=>rfl⟩
theorem ExtX.app {r : Nat} {h h' l : List AObj} (e : ExtX r h h') : ExtX r h (h' ++ l):=⟨by have:=e.1;simp;omega,fun i hi hne=>by rw [List.getElem?_append_left (by have:=e.1;omega)];exact e.2 i hi hne⟩
theorem ExtX.set {r : Nat} {h h' : List AObj} {o : AObj} (e : ExtX r h h') : ExtX r h (h'.set r o):=⟨by simpa using e.1,fun i hi hne=>by rw [List.getElem?_set_ne (Ne.symm hne)];exact e.2 i hi hne⟩
theorem ExtX.setOut {r j : Nat} {h h' : List AObj} {o : AObj} (hj : h.length ≤ j) (e : ExtX r h h') : ExtX r h (h'.set j o):=⟨by simpa using e.1,fun i hi hne=>by rw [List.getElem?_set_ne (by omega)];exact e.2 i hi hne⟩
theorem ExtX.fin {r : Nat} {h h' : List AObj} {a b : AObj} (hr : r < h.length) (hab : a = b) (e : ExtX r h h') : Ext (h.set r b) (h'.set r a):=by
  subst hab
  refine ⟨h'.drop h.length,List.ext_getElem? fun i=>?_⟩
  have hl:=e.1
  rcases Nat.lt_or_ge i h.length with hi|hi
  · rw [List.getElem?_append_left (by simpa using hi)]
    by_cases hne : i = r
    · subst hne;rw [List.getElem?_set_self (by omega),List.getElem?_set_self hi]
    · rw [List.getElem?_set_ne (Ne.symm hne),List.getElem?_set_ne (Ne.symm hne)];exact e.2 i hi hne
  · rw [List.getElem?_append_right (by simpa using hi),List.getElem?_set_ne (by omega),List.getElem?_drop]
    congr 1;simp;omega
def hd1 (b : List UInt8) (bad : Bool) : UInt8:=if takeX b bad 1 then 0 else b.headD 0
theorem takeV1 (b : List UInt8) (bad : Bool) : takeV b bad 1 = [hd1 b bad]:=by
  unfold takeV hd1
  by_cases h : takeX b bad 1 = true
  · rw [if_pos h,if_pos h];rfl
  · rw [if_neg h,if_neg h]
    cases b with
    | nil=>simp [takeX] at h
    | cons c b=>rfl
theorem take1_ac [GlobF Tryz.prog] {h : List AObj} {r : Nat} {b : List UInt8} {bad : Bool} (hr : h[r]? = some (rdC b bad)) :
    AC Tryz.prog 236 [.bp r 0,.sc (.int .i64 1)] h (fun v h'=>v = .sl none 1 [byteC (hd1 b bad)] ∧ h' = h.set r (rdC (takeB b bad 1) (takeX b bad 1))):=by
  have:=take_ac (n:=1) hr (by decide)
  rw [takeV1] at this
  exact this
noncomputable def rdVal (b : List UInt8) (bad : Bool) : Val × List UInt8 × Bool :=
  let k : Int:=(hd1 b bad).toNat
  let b1:=takeB b bad 1
  let x1:=takeX b bad 1
  if k = 2 then
    let v : Val:=⟨k,(hd1 b1 x1).toNat,[]⟩
    (v,takeB b1 x1 1,takeX b1 x1 1 || !mayB v)
  else if k = 3 ∨ k = 4 ∨ k = 7 then
    let v : Val:=⟨k,0,(rdTx b1 x1).1⟩
    (v,(rdTx b1 x1).2.1,(rdTx b1 x1).2.2 || !mayB v)
  else
    let v : Val:=⟨k,numV (takeV b1 x1 8),[]⟩
    (v,takeB b1 x1 8,takeX b1 x1 8 || !mayB v)
theorem hd1w (b : List UInt8) (bad : Bool) : IntKind.i64.wrap ((hd1 b bad).toNat : Int) = (hd1 b bad).toNat:=w64 _ (by omega) (by have:=UInt8.toNat_lt (hd1 b bad);omega)
theorem rdVal_2 {b : List UInt8} {bad : Bool} (h : IntKind.i64.wrap ((hd1 b bad).toNat : Int) = 2) : rdVal b bad =
    (⟨IntKind.i64.wrap ((hd1 b bad).toNat : Int),IntKind.i64.wrap ((hd1 (takeB b bad 1) (takeX b bad 1)).toNat : Int),[]⟩,takeB (takeB b bad 1) (takeX b bad 1) 1,takeX (takeB b bad 1) (takeX b bad 1) 1 || !mayB ⟨IntKind.i64.wrap ((hd1 b bad).toNat : Int),IntKind.i64.wrap ((hd1 (takeB b bad 1) (takeX b bad 1)).toNat : Int),[]⟩):=by
  simp only [hd1w] at *
  simp only [rdVal];rw [if_pos h]
theorem rdVal_t {b : List UInt8} {bad : Bool} (h0 : IntKind.i64.wrap ((hd1 b bad).toNat : Int) ≠ 2) (h : IntKind.i64.wrap ((hd1 b bad).toNat : Int) = 3 ∨ IntKind.i64.wrap ((hd1 b bad).toNat : Int) = 4 ∨ IntKind.i64.wrap ((hd1 b bad).toNat : Int) = 7) : rdVal b bad =
    (⟨IntKind.i64.wrap ((hd1 b bad).toNat : Int),0,(rdTx (takeB b bad 1) (takeX b bad 1)).1⟩,(rdTx (takeB b bad 1) (takeX b bad 1)).2.1,(rdTx (takeB b bad 1) (takeX b bad 1)).2.2 || !mayB ⟨IntKind.i64.wrap ((hd1 b bad).toNat : Int),0,(rdTx (takeB b bad 1) (takeX b bad 1)).1⟩):=by
  simp only [hd1w] at *
  simp only [rdVal];rw [if_neg h0,if_pos h]
theorem rdVal_n {b : List UInt8} {bad : Bool} (h0 : IntKind.i64.wrap ((hd1 b bad).toNat : Int) ≠ 2) (h : ¬ (IntKind.i64.wrap ((hd1 b bad).toNat : Int) = 3 ∨ IntKind.i64.wrap ((hd1 b bad).toNat : Int) = 4 ∨ IntKind.i64.wrap ((hd1 b bad).toNat : Int) = 7)) : rdVal b bad =
    (⟨IntKind.i64.wrap ((hd1 b bad).toNat : Int),numV (takeV (takeB b bad 1) (takeX b bad 1) 8),[]⟩,takeB (takeB b bad 1) (takeX b bad 1) 8,takeX (takeB b bad 1) (takeX b bad 1) 8 || !mayB ⟨IntKind.i64.wrap ((hd1 b bad).toNat : Int),numV (takeV (takeB b bad 1) (takeX b bad 1) 8),[]⟩):=by
  simp only [hd1w] at *
  simp only [rdVal];rw [if_neg h0,if_neg h]
theorem rdVal_len (b : List UInt8) (bad : Bool) : (rdVal b bad).2.1.length ≤ b.length:=by
  have h1:=takeB_len b bad 1
  have h2:=takeB_len (takeB b bad 1) (takeX b bad 1) 1
  have h3:=takeB_len (takeB b bad 1) (takeX b bad 1) 8
  have h4:=(rdTx_len (takeB b bad 1) (takeX b bad 1)).2
  simp only [rdVal]
  split
  · simp only;omega
  · split <;> simp only <;> omega
theorem flagT (x m : Bool) (hx : x = true) : true = (x || !m):=by rw [hx];rfl
theorem flagF (x m : Bool) (hx : x = false) : bNot (iEq (if m = true then 0 else 10) 0) = (x || !m):=by rw [hx];cases m <;> simp [iEq,bNot]
attribute [local irreducible] rdT rdTx takeB takeX hd1 takeV numV in
set_option maxHeartbeats 8000000 in
theorem rvalue_ac0 [GlobF Tryz.prog] {h : List AObj} {r : Nat} {b : List UInt8} {bad : Bool} (hr : h[r]? = some (rdC b bad)) (hb : b.length < 549755813888) :
    AC Tryz.prog 215 [.bp r 0] h (fun v h'=>v = eV (rdVal b bad).1 ∧ Ext (h.set r (rdC (rdVal b bad).2.1 (rdVal b bad).2.2)) h'):=by
  have hlt:=get_lt hr
  have hb1:=takeB_len b bad 1
  have hlen:=rdTx_len (takeB b bad 1) (takeX b bad 1)
  refine AC.of_body Tryz.func215 Tryz.ntmps215 rfl rfl rfl ?_
  repeat' first
 | (apply p1 (hd:=rfl);case hop=>first|(apply D_move;rfl)|(apply D_assign;rfl)|(apply D_pc (check_pc ⟨_,_,[]⟩ (by show (0 : Nat) < 9223372036854775808;decide));rfl;exact .same rfl .nil)|(apply D_pc (check_pc ⟨_,_,(rdTx (takeB b bad 1) (takeX b bad 1)).1⟩ (by simp only;omega));rfl;exact .same rfl .nil)|(apply D_load1;rfl)|(apply D_pickT;rfl;rfl)|(apply D_pickF;rfl;rfl)|(apply D_int;rfl;rfl;rfl)|(apply D_conv_int;rfl)|(apply D_idxA0;rfl;rfl;omega;(first|omega|(simp;done)|(simp;omega)))|exact D_build rfl|exact D_fldB rfl|(apply D_nilB;rfl))
 | refine W_seq ?_
 | refine W_region ?_
 | (refine idC ?_;first|refine c1 rfl ?_|refine cs rfl (fun _=>?_) (fun _=>?_))
 | refine WL_nil ?_
 | (refine idG ?_;first|refine g0f rfl rfl rfl ?_|refine gr rfl rfl ?_|refine gs rfl rfl (fun _=>?_) (fun _=>?_))
 | refine tn ?_
 | refine bn ?_
 | refine W_skip ?_
 | refine W_block ?_
 | refine W_ret ?_
 | (refine idLd ?_;first|refine p1L (D_loadB1 rfl (by (repeat first|assumption|exact get_last|(refine get_last2 ?_;focus (simp;done))|apply get_set|apply get_app|(apply get_ne;focus omega)|(apply get_ne;focus (simp only [List.length_set,List.length_append,List.length_cons,List.length_nil];omega)));done) (by rfl)) rfl ?_|refine p1L (D_loadBA rfl (by (repeat first|assumption|exact get_last|(refine get_last2 ?_;focus (simp;done))|apply get_set|apply get_app|(apply get_ne;focus omega)|(apply get_ne;focus (simp only [List.length_set,List.length_append,List.length_cons,List.length_nil];omega)));done) (by rfl)) rfl ?_)
 | (refine idA ?_;refine m_alloc rfl ?_)
 | (refine idS ?_;first|refine pS (S_store rfl rfl rfl (by (repeat first|assumption|exact get_last|(refine get_last2 ?_;focus (simp;done))|apply get_set|apply get_app|(apply get_ne;focus omega)|(apply get_ne;focus (simp only [List.length_set,List.length_append,List.length_cons,List.length_nil];omega)));done) (by rfl) (by rfl) (by rfl)) ?_)
 | (refine m_call (d:=5) (take1_ac (by (repeat first|assumption|exact get_last|(refine get_last2 ?_;focus (simp;done))|apply get_set|apply get_app|(apply get_ne;focus omega)|(apply get_ne;focus (simp only [List.length_set,List.length_append,List.length_cons,List.length_nil];omega)));done)) rfl rfl rfl ?_;rintro _ _ ⟨rfl,rfl⟩)
 | (refine m_call (d:=18) (take1_ac (by (repeat first|assumption|exact get_last|(refine get_last2 ?_;focus (simp;done))|apply get_set|apply get_app|(apply get_ne;focus omega)|(apply get_ne;focus (simp only [List.length_set,List.length_append,List.length_cons,List.length_nil];omega)));done)) rfl rfl rfl ?_;rintro _ _ ⟨rfl,rfl⟩)
 | (refine m_call (d:=28) (rtext_ac (by (repeat first|assumption|exact get_last|(refine get_last2 ?_;focus (simp;done))|apply get_set|apply get_app|(apply get_ne;focus omega)|(apply get_ne;focus (simp only [List.length_set,List.length_append,List.length_cons,List.length_nil];omega)));done) (by omega)) rfl rfl rfl ?_;rintro _ _ ⟨rfl,rfl⟩)
 | (refine m_call (d:=13) (rnum_ac (by (repeat first|assumption|exact get_last|(refine get_last2 ?_;focus (simp;done))|apply get_set|apply get_app|(apply get_ne;focus omega)|(apply get_ne;focus (simp only [List.length_set,List.length_append,List.length_cons,List.length_nil];omega)));done)) rfl rfl rfl ?_;rintro _ _ ⟨rfl,rfl⟩)
  all_goals
    first
      | have e:=rdVal_2 (b:=b) (bad:=bad) (by assumption)
      | have e:=rdVal_t (b:=b) (bad:=bad) (by assumption) (.inl (by assumption))
      | have e:=rdVal_t (b:=b) (bad:=bad) (by assumption) (.inr (.inl (by assumption)))
      | have e:=rdVal_t (b:=b) (bad:=bad) (by assumption) (.inr (.inr (by assumption)))
      | have e:=rdVal_n (b:=b) (bad:=bad) (by assumption) (fun h=>by rcases h with h|h|h <;> contradiction)
    refine retK1 (.inl rfl) rfl rfl (ResO.cellBA rfl (by (repeat first|assumption|exact get_last|(refine get_last2 ?_;focus (simp;done))|apply get_set|apply get_app|(apply get_ne;focus omega)|(apply get_ne;focus (simp only [List.length_set,List.length_append,List.length_cons,List.length_nil];omega)));done) (by rfl)) ⟨?_,?_⟩
    · rw [e];rfl
    · rw [e]
      repeat first
        | exact ExtX.refl _ _
        | (refine ExtX.fin hlt (congrArg (rdC _) (by first|exact flagT _ _ (by assumption)|exact flagF _ _ (by assumption))) ?_)
        | (refine ExtX.set ?_)
        | (refine ExtX.setOut (by simp only [List.length_set,List.length_append,List.length_cons,List.length_nil];omega) ?_)
        | (refine Ext.setOut (by simp only [List.length_set,List.length_append,List.length_cons,List.length_nil];omega) ?_)
        | refine ExtX.app ?_
        | refine Ext.app ?_
theorem rvalue_ac [GlobF Tryz.prog] {h : List AObj} {r : Nat} {b : List UInt8} {bad : Bool} (hr : h[r]? = some (rdC b bad)) (hb : b.length < 549755813888) :
    AC Tryz.prog 215 [.bp r 0] h (fun v h'=>v = eV (rdVal b bad).1 ∧ h' = h.set r (rdC (rdVal b bad).2.1 (rdVal b bad).2.2)):=by
  refine AC.cut (rvalue_ac0 hr hb) ?_
  rintro hbd v h' ⟨rfl,ex,rfl⟩
  refine ⟨_,ex,rfl,by simp,BdH.set hbd (bd_rdC _ _ _),.ag fun x hx=>?_,rfl,rfl⟩
  simp only [List.mem_cons,List.not_mem_nil,or_false] at hx
  rcases hx with rfl|rfl|rfl <;> exact .sc _
noncomputable def rdPart (is : Bool) (s : List UInt8 × Bool) : Prt × List UInt8 × Bool :=
  if is then (prtV (rdVal s.1 s.2).1,(rdVal s.1 s.2).2) else (prtN (numV (takeV s.1 s.2 8)),takeB s.1 s.2 8,takeX s.1 s.2 8)
theorem rdPart_len (is : Bool) (s : List UInt8 × Bool) : (rdPart is s).2.1.length ≤ s.1.length:=by
  have h1:=rdVal_len s.1 s.2
  have h2:=takeB_len s.1 s.2 8
  unfold rdPart;split <;> simp only <;> omega
abbrev rdS (s : List UInt8 × Bool) : AObj:=rdC s.1 s.2
abbrev boC (b : Bool) : List AV:=[.sc (.bool b)]
attribute [local irreducible] rdVal takeV takeB takeX numV in
set_option maxHeartbeats 8000000 in
theorem rparts1_ac [GlobF Tryz.prog] (ks : List Bool) (r l : Nat) (I : Nat → List UInt8 × Bool → List AObj → Prop) (Stop : List AObj → Prop) {h0 : List AObj} {s0 : List UInt8 × Bool} (hI0 : I 0 s0 h0) (hks : ks.length < 1048576)
    (hI : ∀ (i : Nat) (s : List UInt8 × Bool) (h : List AObj),I i s h → h[r]? = some (rdS s) ∧ s.1.length < 549755813888)
    (hbad : ∀ (i : Nat) (hi : i < ks.length) (s : List UInt8 × Bool) (h h' : List AObj),I i s h → Ext (h.set r (rdS (rdPart (ks[i]'hi) s).2)) h' → (rdPart (ks[i]'hi) s).2.2 = true → Stop h')
    (hy : ∀ (i : Nat) (hi : i < ks.length) (s : List UInt8 × Bool) (h h' : List AObj),I i s h → Ext (h.set r (rdS (rdPart (ks[i]'hi) s).2)) h' → (rdPart (ks[i]'hi) s).2.2 = false →
      YW Tryz.prog l [eP (rdPart (ks[i]'hi) s).1] h' (fun b h'=>(b = true ∧ I (i + 1) (rdPart (ks[i]'hi) s).2 h') ∨ (b = false ∧ Stop h'))) :
    AC Tryz.prog 214 [.sc (.func (.yield l) #[] #[]),.ep [.sl none 1 (ks.map boC)],.ep [.bp r 0]] h0 (fun _ h'=>(∃ s,I ks.length s h') ∨ Stop h'):=by
  refine AC.of_body Tryz.func214 Tryz.ntmps214 rfl rfl rfl ?_
  repeat' first
 | (apply p1 (hd:=rfl);case hop=>first|(apply D_move;rfl)|(apply D_load1;rfl)|(apply D_lenM;rfl))
 | refine W_seq ?_
 | refine W_region ?_
 | refine WL_nil ?_
 | refine tn ?_
 | (refine W_block ?_)
  refine W_loopL (X:=Nat × (List UInt8 × Bool) × List AObj) (fun x=>[(0,.sc (.func (.yield l) #[] #[])),(2,.ep [.bp r 0]),(7,.sl none 1 (ks.map boC)),(8,.sc (.int .i64 (ks.length : Int))),(9,.sc (.int .i64 (x.1 : Int)))]) (fun x=>x.2.2)
    (fun x=>x.1 ≤ ks.length ∧ I x.1 x.2.1 x.2.2) (fun x=>ks.length - x.1) (0,s0,h0) ⟨by show 0 ≤ _;omega,hI0⟩ ⟨rfl,rfl,rfl,rfl,rfl,trivial⟩ rfl ?_
  rintro ⟨i,s,h⟩ ⟨hi,hIi⟩
  simp only at hi hIi
  obtain ⟨hr,hl⟩:=hI i s h hIi
  have hlt:=get_lt hr
  have hb:=fun hlt=>hbad i hlt s h
  have hyi:=fun hlt=>hy i hlt s h
  have e1 : ∀ hlt : i < ks.length,ks[i] = true → rdPart (ks[i]'hlt) s = (prtV (rdVal s.1 s.2).1,(rdVal s.1 s.2).2):=fun _ h=>by rw [rdPart,if_pos h]
  have e2 : ∀ hlt : i < ks.length,ks[i] = false → rdPart (ks[i]'hlt) s = (prtN (numV (takeV s.1 s.2 8)),takeB s.1 s.2 8,takeX s.1 s.2 8):=fun _ h=>by rw [rdPart,if_neg (by rw [h];exact Bool.false_ne_true)]
  have hyT : ∀ (hlt : i < ks.length),ks[i] = true → ∀ h',Ext (h.set r (rdS (rdVal s.1 s.2).2)) h' → (rdVal s.1 s.2).2.2 = false → YW Tryz.prog l [eP (prtV (rdVal s.1 s.2).1)] h' (fun b h'=>(b = true ∧ I (i + 1) (rdVal s.1 s.2).2 h') ∨ (b = false ∧ Stop h')):=fun hlt hk h'=>by
    have:=hyi hlt h' hIi
    rw [e1 hlt hk] at this;exact this
  have hyF : ∀ (hlt : i < ks.length),ks[i] = false → ∀ h',Ext (h.set r (rdS (takeB s.1 s.2 8,takeX s.1 s.2 8))) h' → takeX s.1 s.2 8 = false → YW Tryz.prog l [eP (prtN (numV (takeV s.1 s.2 8)))] h' (fun b h'=>(b = true ∧ I (i + 1) (takeB s.1 s.2 8,takeX s.1 s.2 8) h') ∨ (b = false ∧ Stop h')):=fun hlt hk h'=>by
    have:=hyi hlt h' hIi
    rw [e2 hlt hk] at this;exact this
  have hbT : ∀ (hlt : i < ks.length),ks[i] = true → ∀ h',Ext (h.set r (rdS (rdVal s.1 s.2).2)) h' → (rdVal s.1 s.2).2.2 = true → Stop h':=fun hlt hk h'=>by
    have:=hb hlt h' hIi
    rw [e1 hlt hk] at this;exact this
  have hbF : ∀ (hlt : i < ks.length),ks[i] = false → ∀ h',Ext (h.set r (rdS (takeB s.1 s.2 8,takeX s.1 s.2 8))) h' → takeX s.1 s.2 8 = true → Stop h':=fun hlt hk h'=>by
    have:=hb hlt h' hIi
    rw [e2 hlt hk] at this;exact this
  clear hb hyi e1 e2
  repeat' first
 | (apply p1 (hd:=rfl);case hop=>first|(apply D_move;rfl)|(apply D_assign;rfl)|(apply D_load1;rfl)|(apply D_pickT;rfl;rfl)|(apply D_pickF;rfl;rfl)|(apply D_int;rfl;rfl;rfl)|(apply D_not;rfl)|(apply D_idxAn;rfl;rfl;(first|omega|(simp;done)))|exact D_build rfl|exact D_fldB rfl|(apply D_nilB;rfl))
 | refine W_seq ?_
 | refine W_region ?_
 | (refine idC ?_;first|refine c1 rfl ?_|refine cs rfl (fun _=>?_) (fun _=>?_))
 | refine WL_nil ?_
 | (refine idG ?_;first|refine g0f rfl rfl rfl ?_|refine gr rfl rfl ?_|refine gs rfl rfl (fun _=>?_) (fun _=>?_))
 | refine tn ?_
 | refine tr ?_
 | refine br ?_
 | refine bn ?_
 | refine te ?_
 | (refine idB ?_;refine bh rfl ?_)
 | refine W_skip ?_
 | refine W_block ?_
 | refine W_exit ?_
 | refine W_ret ?_
 | (refine idLd ?_;first|refine p1L (D_loadB1 rfl (by (repeat first|assumption|exact get_last|(refine get_last2 ?_;focus (simp;done))|apply get_set|apply get_app|(apply get_ne;focus omega)|(apply get_ne;focus (simp only [List.length_set,List.length_append,List.length_cons,List.length_nil];omega)));done) (by rfl)) rfl ?_|refine p1L (D_loadBA rfl (by (repeat first|assumption|exact get_last|(refine get_last2 ?_;focus (simp;done))|apply get_set|apply get_app|(apply get_ne;focus omega)|(apply get_ne;focus (simp only [List.length_set,List.length_append,List.length_cons,List.length_nil];omega)));done) (by rfl)) rfl ?_)
 | (refine idA ?_;refine m_alloc rfl ?_)
 | (refine idS ?_;first|refine pS (S_store rfl rfl rfl (by (repeat first|assumption|exact get_last|(refine get_last2 ?_;focus (simp;done))|apply get_set|apply get_app|(apply get_ne;focus omega)|(apply get_ne;focus (simp only [List.length_set,List.length_append,List.length_cons,List.length_nil];omega)));done) (by rfl) (by rfl) (by rfl)) ?_)
 | (refine m_call (d:=15) (rvalue_ac (by (repeat first|assumption|exact get_last|(refine get_last2 ?_;focus (simp;done))|apply get_set|apply get_app|(apply get_ne;focus omega)|(apply get_ne;focus (simp only [List.length_set,List.length_append,List.length_cons,List.length_nil];omega)));done) hl) rfl rfl rfl ?_;rintro _ _ ⟨rfl,rfl⟩)
 | (refine m_call (d:=18) (rnum_ac (by (repeat first|assumption|exact get_last|(refine get_last2 ?_;focus (simp;done))|apply get_set|apply get_app|(apply get_ne;focus omega)|(apply get_ne;focus (simp only [List.length_set,List.length_append,List.length_cons,List.length_nil];omega)));done)) rfl rfl rfl ?_;rintro _ _ ⟨rfl,rfl⟩)
 | (refine m_yield (d:=27) rfl rfl rfl (hyT (by simp only at *;omega) (by assumption) _ ?_ (by assumption)) ?_;rotate_left 1;rintro b h' (⟨rfl,hnx⟩ | ⟨rfl,hst⟩))
 | (refine m_yield (d:=27) rfl rfl rfl (hyF (by simp only at *;omega) (by assumption) _ ?_ (by assumption)) ?_;rotate_left 1;rintro b h' (⟨rfl,hnx⟩ | ⟨rfl,hst⟩))
  all_goals try contradiction
  all_goals first
    | exact ret0 (.inl rfl) rfl rfl (.inr (by assumption))
    | (refine ret0 (.inl rfl) rfl rfl (.inr (hbT (by simp only at *;omega) (by assumption) _ ?_ (by assumption)));simp only;refine Ext.setOut (Nat.le_of_eq (by simp only [List.length_set])) ?_)
    | (refine ret0 (.inl rfl) rfl rfl (.inr (hbF (by simp only at *;omega) (by assumption) _ ?_ (by assumption)));simp only;refine Ext.setOut (Nat.le_of_eq (by simp only [List.length_set])) ?_)
    | (refine ret0 (.inr rfl) rfl rfl (.inl ⟨s,?_⟩)
       have : i = ks.length:=by simp only at *;omega
       subst this;exact hIi)
    | (refine ⟨rfl,(i + 1,_,_),⟨?_,hnx⟩,?_,⟨rfl,rfl,rfl,rfl,ieq (wsucc _ (by simp only at *;omega)),trivial⟩,rfl⟩ <;> (simp only at *;omega))
    | (simp only;refine Ext.setOut (Nat.le_of_eq (by simp only [List.length_set])) ?_)
  all_goals
    exact ExtX.fin hlt rfl (ExtX.app (ExtX.refl _ _))
noncomputable def rdAll : List Bool → List UInt8 × Bool → List Prt × List UInt8 × Bool
  | [],s=>([],s)
  | k :: ks,s=>if (rdPart k s).2.2 then ([],(rdPart k s).2) else ((rdPart k s).1 :: (rdAll ks (rdPart k s).2).1,(rdAll ks (rdPart k s).2).2)
theorem rdAll_len : ∀ (ks : List Bool) (s : List UInt8 × Bool),(rdAll ks s).1.length ≤ ks.length
  | [],s=>by simp [rdAll]
  | k :: ks,s=>by
    have:=rdAll_len ks (rdPart k s).2
    simp only [rdAll];split <;> simp <;> omega
theorem rparts1_acX [GlobF Tryz.prog] (ks : List Bool) (r l : Nat) (Hs : List Prt → List UInt8 × Bool → List AObj) {h0 : List AObj} {s0 : List UInt8 × Bool} (hH : Hs [] s0 = h0) (hl : s0.1.length < 549755813888) (hks : ks.length < 1048576)
    (hr : ∀ out s,(Hs out s)[r]? = some (rdS s)) (hs : ∀ out s s',(Hs out s).set r (rdS s') = Hs out s')
    (hy : ∀ out p s ex,out.length < ks.length → YW Tryz.prog l [eP p] (Hs out s ++ ex) (fun b h'=>b = true ∧ ∃ ex',h' = Hs (out ++ [p]) s ++ ex')) :
    AC Tryz.prog 214 [.sc (.func (.yield l) #[] #[]),.ep [.sl none 1 (ks.map boC)],.ep [.bp r 0]] h0 (fun _ h'=>∃ ex,h' = Hs (rdAll ks s0).1 (rdAll ks s0).2 ++ ex):=by
  refine AC.mono (rparts1_ac ks r l (fun i s h=>s.1.length < 549755813888 ∧ ∃ out ex,out.length = i ∧ h = Hs out s ++ ex ∧ rdAll ks s0 = (out ++ (rdAll (ks.drop i) s).1,(rdAll (ks.drop i) s).2)) (fun h=>∃ ex,h = Hs (rdAll ks s0).1 (rdAll ks s0).2 ++ ex)
    (s0:=s0) ⟨hl,[],[],rfl,by rw [List.append_nil];exact hH.symm,by simp⟩ hks ?_ ?_ ?_) ?_
  · rintro i s h ⟨h1,out,ex,h2,rfl,h4⟩
    exact ⟨get_app (hr out s),h1⟩
  · rintro i hi s h h' ⟨h1,out,ex,h2,rfl,h4⟩ ⟨ex2,rfl⟩ hb
    rw [List.drop_eq_getElem_cons hi,rdAll,if_pos hb] at h4
    rw [h4,set_app (hr out s),hs]
    exact ⟨ex ++ ex2,by simp⟩
  · rintro i hi s h h' ⟨h1,out,ex,h2,rfl,h4⟩ ⟨ex2,rfl⟩ hb
    rw [List.drop_eq_getElem_cons hi,rdAll,if_neg (by rw [hb];exact Bool.false_ne_true)] at h4
    rw [set_app (hr out s),hs,List.append_assoc]
    refine (hy out _ _ _ (by omega)).mono ?_
    rintro b h' ⟨rfl,ex',rfl⟩
    refine .inl ⟨rfl,Nat.lt_of_le_of_lt (rdPart_len _ _) h1,out ++ [(rdPart ks[i] s).1],ex',by simp [h2],rfl,?_⟩
    rw [h4];simp
  · rintro _ h' (⟨s,h1,out,ex,h2,rfl,h4⟩|h1)
    · refine ⟨ex,?_⟩
      rw [List.drop_eq_nil_of_le (Nat.le_refl _)] at h4
      rw [h4];simp [rdAll]
    · exact h1
set_option maxHeartbeats 4000000 in
theorem rparts_pc [GlobF Tryz.prog] {h : List AObj} (r : Nat) (ks : List Bool) : AC Tryz.prog 169 [.bp r 0,.sl none 1 (ks.map boC)] h (fun v h'=>v = .fn (.func 214) [] [.ep [.sl none 1 (ks.map boC)],.ep [.bp r 0]] ∧ h' = h):=by
  refine AC.of_body Tryz.func169 Tryz.ntmps169 rfl rfl rfl ?_
  repeat' first
 | (apply p1 (hd:=rfl);case hop=>first|(apply D_assign;rfl)|(apply D_box;rfl;rfl)|exact D_mkfn rfl)
 | refine W_seq ?_
 | refine W_region ?_
 | refine WL_nil ?_
 | refine tn ?_
 | (refine W_ret ?_)
  all_goals exact retK1 (.inl rfl) rfl rfl (ResO.tmp rfl) ⟨rfl,rfl⟩
noncomputable def rdOK (ks : List Bool) (b : List UInt8) : Prop:=(rdAll ks (b,false)).2.2 = false ∧ (rdAll ks (b,false)).2.1.length = 0
open Classical in
noncomputable def rdL (ks : List Bool) (b : List UInt8) : List Prt:=if rdOK ks b then (rdAll ks (b,false)).1 else []
open Classical in
noncomputable def rdE (ks : List Bool) (b : List UInt8) : Int:=if rdOK ks b then 0 else 20
theorem congr5 {α : Type} {a b b' c c' d e : α} {ex : List α} (h1 : b = b') (h2 : c = c') : a :: b :: c :: d :: e :: ex = [a,b',c',d,e] ++ ex:=by subst h1;subst h2;rfl
attribute [local irreducible] rdAll in
set_option maxHeartbeats 8000000 in
theorem oread_pc [GlobF Tryz.prog] (b : List UInt8) (ks : List Bool) (hl : b.length < 549755813888) (hks : ks.length < 1048576) :
    PC Tryz.prog 117 [.sl none 1 (b.map byteC),.sl none 1 (ks.map boC)] (.tu [.sl none 5 ((rdL ks b).map pC),.sc (.int .i64 (rdE ks b))]):=by
  have hlen:=rdAll_len ks (b,false)
  refine PC.of_body Tryz.func117 Tryz.ntmps117 rfl rfl rfl ?_
  repeat' first
 | (refine m_box rfl rfl rfl ?_)
 | (apply p1 (hd:=rfl);case hop=>first|(apply D_move;rfl)|(apply D_assign;rfl)|exact D_build rfl)
 | refine W_seq ?_
 | refine W_region ?_
 | refine WL_nil ?_
 | refine tn ?_
 | refine W_block ?_
 | (refine idA ?_;refine m_alloc rfl ?_)
 | (refine m_call (d:=14) (rparts_pc 0 ks) rfl rfl rfl ?_;rintro _ _ ⟨rfl,rfl⟩)
  refine W_adoptC 1 0 5 58 rfl rfl ?_
  refine W_range (.inl rfl) fun r=>?_
  refine AC.mono (rparts1_acX ks 0 r (fun out s=>[rdS s,.cells [.sl (some 2) 5 (out.map pC)],.tail out.length 5 58,_,_]) (s0:=(b,false)) rfl hl hks (fun _ _=>rfl) (fun _ _ _=>rfl) ?_) ?_
  · intro out p s ex hlt
    refine YW.round (r:=4) rfl rfl rfl ?_
    repeat' first
 | refine W_region ?_
 | refine WL_nil ?_
 | (refine idA ?_;refine m_var rfl rfl rfl rfl rfl rfl rfl ?_)
    refine ⟨rfl,rfl,?_⟩
    repeat' first
 | (apply p1 (hd:=rfl);case hop=>first|(apply D_loadW;rfl;rfl)|(apply D_lit;rfl;rfl;rfl;rfl))
 | refine W_region ?_
 | refine WL_nil ?_
 | refine bn ?_
 | refine W_block ?_
 | (refine idLd ?_;refine p1L (D_loadB1 rfl rfl rfl) rfl ?_)
 | (refine idS ?_;refine pS (S_store rfl rfl rfl rfl rfl rfl rfl) ?_)
 | (refine idAp ?_;refine m_app rfl rfl (by rfl) ?_ rfl rfl ?_ ?_ rfl ?_;(focus (simp;done));(focus (simp only [List.length_map,List.length_append,List.length_cons,List.length_nil];omega));(focus (simp only [List.length_map,List.length_append,List.length_cons,List.length_nil];omega)))
    refine ⟨rfl,⟨_,_,rfl⟩,⟨rfl,ex,congr5 ?_ ?_⟩⟩
    · simp
    · simp
  · rintro _ h' ⟨ex,rfl⟩
    generalize hR : rdAll ks (b,false) = R at *
    obtain ⟨out,b',bad'⟩:=R
    refine ⟨_,_,rfl,by decide,?_⟩
    repeat' first
 | (apply p1 (hd:=rfl);case hop=>first|(apply D_move;rfl)|(apply D_assign;rfl)|(apply D_pickT;rfl;rfl)|(apply D_pickF;rfl;rfl)|(apply D_int;rfl;rfl;rfl)|(apply D_lenM;rfl)|exact D_fldB rfl|(apply D_nilB;rfl))
 | refine W_seq ?_
 | refine W_region ?_
 | (refine idC ?_;first|refine c1 rfl ?_|refine cs rfl (fun _=>?_) (fun _=>?_))
 | refine WL_nil ?_
 | (refine idG ?_;first|refine g0f rfl rfl rfl ?_|refine gr rfl rfl ?_|refine gs rfl rfl (fun _=>?_) (fun _=>?_))
 | refine tn ?_
 | refine tr ?_
 | refine bn ?_
 | refine W_skip ?_
 | refine W_ret ?_
 | (refine idR ?_;first|refine rL2 rfl (by first|exact trivial|exact ⟨rfl,trivial⟩) (by exact ResO.tmp rfl) (by exact ResO.tmp rfl) ?_ ?_)
 | (refine idLd ?_;refine p1L (D_loadB1 rfl rfl rfl) rfl ?_)
 | (refine Le.int ?_)
    all_goals simp only at *
    · have hn : ¬ rdOK ks b:=fun h=>by have:=h.1;rw [hR] at this;simp_all
      rw [rdL,if_neg hn];exact Le.nil rfl
    · have hn : ¬ rdOK ks b:=fun h=>by have:=h.1;rw [hR] at this;simp_all
      rw [rdE,if_neg hn]
    · have hn : ¬ rdOK ks b:=fun h=>by have:=h.2;rw [hR] at this;simp only at this;omega
      rw [rdL,if_neg hn];exact Le.nil rfl
    · have hn : ¬ rdOK ks b:=fun h=>by have:=h.2;rw [hR] at this;simp only at this;omega
      rw [rdE,if_neg hn]
    · have hn : rdOK ks b:=by rw [rdOK,hR];simp only;exact ⟨by assumption,by omega⟩
      rw [rdL,if_pos hn,hR];exact Le.tokq rfl
    · have hn : rdOK ks b:=by rw [rdOK,hR];simp only;exact ⟨by assumption,by omega⟩
      rw [rdE,if_pos hn]
theorem rdAll_full : ∀ (ks : List Bool) (s : List UInt8 × Bool),(rdAll ks s).2.2 = false → (rdAll ks s).1.length = ks.length
  | [],s,_=>by simp [rdAll]
  | k :: ks,s,h=>by
    simp only [rdAll] at *
    split at h
    · rename_i h1;simp only at h;rw [h1] at h;cases h
    · rename_i h1;rw [if_neg h1];simp only at h ⊢;simp [rdAll_full ks _ h]
theorem rdVal_s (b : List UInt8) (bad : Bool) : (rdVal b bad).1.s.length ≤ b.length:=by
  have h1:=takeB_len b bad 1
  have h4:=(rdTx_len (takeB b bad 1) (takeX b bad 1)).1
  simp only [rdVal]
  split
  · simp
  · split <;> simp only
    · omega
    · simp
theorem rdAll_s : ∀ (ks : List Bool) (s : List UInt8 × Bool),∀ p,p ∈ (rdAll ks s).1 → p.v.s.length ≤ s.1.length
  | [],s,p,h=>by simp [rdAll] at h
  | k :: ks,s,p,h=>by
    simp only [rdAll] at h
    split at h
    · simp at h
    · simp only [List.mem_cons] at h
      rcases h with rfl|h
      · unfold rdPart;split
        · exact rdVal_s _ _
        · simp [prtN,val0]
      · exact Nat.le_trans (rdAll_s ks _ p h) (rdPart_len _ _)
def datOf (o : Int) : List Prt → Dat
  | [p0,p1,p2,p3,p4,p5,p6]=>if o = 1 then ⟨p0.n,p1.n,p2.v,p3.n,iEq p4.n 0,p5.n,p6.n⟩ else if o = 2 then ⟨p1.n,p0.n,p2.v,p3.n,iEq p4.n 0,p5.n,p6.n⟩ else if o = 3 then ⟨p2.n,p0.n,p1.v,p3.n,iEq p4.n 0,p5.n,p6.n⟩ else ⟨p2.n,p1.n,p0.v,p3.n,iEq p4.n 0,p5.n,p6.n⟩
  | _=>dat0
def fourN : List Prt → Int
  | [_,_,_,_,p4,_,_]=>p4.n
  | _=>0
def drdP (o : Int) (b : List UInt8) : Prop:=(1 ≤ o ∧ o ≤ 4) ∧ rdOK (kindsO o) b ∧ dmayP (datOf o (rdL (kindsO o) b)) ∧ hasP o (datOf o (rdL (kindsO o) b)) ∧ fourN (rdL (kindsO o) b) = (if (datOf o (rdL (kindsO o) b)).add then 0 else 1)
open Classical in
noncomputable def drdD (o : Int) (b : List UInt8) : Dat:=if drdP o b then datOf o (rdL (kindsO o) b) else dat0
open Classical in
noncomputable def drdE (o : Int) (b : List UInt8) : Int:=if 1 ≤ o ∧ o ≤ 4 then (if drdP o b then 0 else 40) else 2
theorem seven {α : Type} {l : List α} (h : l.length = 7) : ∃ a b c d e f g,l = [a,b,c,d,e,f,g]:=by
  match l,h with
  | [a,b,c,d,e,f,g],_=>exact ⟨a,b,c,d,e,f,g,rfl⟩
set_option maxHeartbeats 16000000 in
theorem dread_pc [GlobF Tryz.prog] (o : Int) (b : List UInt8) (hl : b.length < 549755813888) :
    PC Tryz.prog 60 [.sc (.int .i64 o),.sl none 1 (b.map byteC)] (.tu [eD (drdD o b),.sc (.int .i64 (drdE o b))]):=by
  refine PC.of_body Tryz.func60 Tryz.ntmps60 rfl rfl rfl ?_
  repeat' first
 | (apply p1 (hd:=rfl);case hop=>first|(apply D_move;rfl)|(apply D_assign;rfl)|(apply D_pc (is_pc o);rfl;exact .same rfl .nil)|(apply D_pc (parts_pc o dat0);rfl;exact .same rfl (.same rfl .nil))|(apply D_not;rfl)|exact D_build rfl)
 | refine W_seq ?_
 | refine W_region ?_
 | (refine idC ?_;refine cs rfl (fun _=>?_) (fun _=>?_))
 | refine WL_nil ?_
 | refine tn ?_
 | refine tr ?_
 | refine W_skip ?_
 | refine W_block ?_
 | refine W_ret ?_
 | (refine idR ?_;first|refine rL2 rfl (by first|exact trivial|exact ⟨rfl,trivial⟩) (by exact ResO.cellBA rfl rfl rfl) (by exact ResO.tmp rfl) ?_ ?_)
 | (refine idA ?_;refine m_alloc rfl ?_)
 | (refine idS ?_;refine pS (S_store rfl rfl rfl rfl rfl rfl rfl) ?_)
 | (refine Le.int ?_)
  · rename_i h1
    rw [show drdD o b = dat0 by rw [drdD,if_neg fun h=>h1 h.1]];exact Le.of_eq rfl
  · rename_i h1
    rw [drdE,if_neg h1]
  rename_i h1
  refine W_adoptC 1 0 1 4 rfl rfl ?_
  refine W_range (.inl rfl) fun r=>?_
  refine parts1_acX o dat0 r (fun i=>[.cells (dC dat0),.cells [.sl (some 2) 1 (((kindsO o).take i).map boC)],.tail i 1 4,_,_]) (fun _=>True) rfl trivial ?_ ?_
  · rintro i hi -
    have hl : ((kindsO o).take i).length = i:=by rw [List.length_take];simp only [kindsO,List.length_map,part7_len];omega
    have e : ((kindsO o).take (i + 1)).map boC = ((kindsO o).take i).map boC ++ [boC ((part7 o dat0)[i]'hi).value]:=by
      rw [List.take_succ_eq_append_getElem (by simpa [kindsO,part7_len] using hi),List.map_append];simp only [kindsO,List.getElem_map,List.map_cons,List.map_nil];rfl
    refine YW.round (r:=4) rfl rfl rfl ?_
    repeat' first
 | refine W_region ?_
 | refine WL_nil ?_
 | (refine idA ?_;refine m_var rfl rfl rfl rfl rfl rfl rfl ?_)
    refine ⟨rfl,rfl,?_⟩
    repeat' first
 | (apply p1 (hd:=rfl);case hop=>first|(apply D_load1;rfl)|(apply D_fld;rfl)|(apply D_lit;rfl;rfl;rfl;rfl))
 | refine W_region ?_
 | refine WL_nil ?_
 | refine bn ?_
 | refine W_block ?_
 | (refine idLd ?_;refine p1L (D_loadB1 rfl rfl rfl) rfl ?_)
 | (refine idS ?_;refine pS (S_store rfl rfl rfl rfl rfl rfl rfl) ?_)
 | (refine idAp ?_;refine m_app rfl rfl (by rfl) ?_ rfl rfl ?_ ?_ rfl ?_;(focus (simp only [List.length_map,List.length_append,List.length_cons,List.length_nil];omega));(focus (simp only [List.length_map,List.length_append,List.length_cons,List.length_nil];omega));(focus (simp only [List.length_map,List.length_append,List.length_cons,List.length_nil];omega)))
    refine ⟨rfl,⟨_,_,rfl⟩,.inl ⟨rfl,congr5 (ex:=[]) ?_ ?_,trivial⟩⟩
    · rw [e];rfl
    · rw [List.length_map,hl];rfl
  · intro _
    refine ⟨_,_,rfl,by decide,?_⟩
    rw [List.take_of_length_le (by simp [kindsO,part7_len])]
    repeat' first
 | (apply p1 (hd:=rfl);case hop=>first|(apply D_move;rfl)|(apply D_assign;rfl)|(apply D_pc (oread_pc b (kindsO o) hl (by simp only [kindsO,List.length_map,part7_len];decide));rfl;exact .same rfl (.tok rfl .nil))|(apply D_int;rfl;rfl;rfl)|(apply D_ext;rfl;rfl)|exact D_build rfl)
 | refine W_seq ?_
 | refine W_region ?_
 | (refine idC ?_;refine cs rfl (fun _=>?_) (fun _=>?_))
 | refine WL_nil ?_
 | refine tn ?_
 | refine tr ?_
 | refine bn ?_
 | refine W_skip ?_
 | refine W_ret ?_
 | (refine idR ?_;first|refine rL2 rfl (by first|exact trivial|exact ⟨rfl,trivial⟩) (by exact ResO.cellBA rfl rfl rfl) (by exact ResO.tmp rfl) ?_ ?_)
 | (refine idLd ?_;refine p1L (D_loadB1 rfl rfl rfl) rfl ?_)
 | (refine idS ?_;refine pS (S_store rfl rfl rfl rfl rfl rfl rfl) ?_)
 | refine Le.int ?_
 | (refine idW ?_;refine W_draw1 rfl ?_)
 | (apply d1 (hd:=rfl);case hop=>first|(apply D_move;rfl))
 | (fail)
    · rename_i h2
      have hn : ¬ drdP o b:=fun h=>h2 (by rw [rdE,if_pos h.2.1])
      rw [show drdD o b = dat0 by rw [drdD,if_neg hn]];exact Le.of_eq rfl
    · rename_i h2
      have hn : ¬ drdP o b:=fun h=>h2 (by rw [rdE,if_pos h.2.1])
      rw [drdE,if_pos h1,if_neg hn]
    rename_i h2
    have hok : rdOK (kindsO o) b:=by
      rw [rdE] at h2;split at h2
      · assumption
      · cases h2
    have hL : rdL (kindsO o) b = (rdAll (kindsO o) (b,false)).1:=by rw [rdL,if_pos hok]
    have hL7 : (rdL (kindsO o) b).length = 7:=by rw [hL,rdAll_full _ _ hok.1];simp [kindsO,part7_len]
    have hv : ∀ p,p ∈ rdL (kindsO o) b → p.v.s.length < 9223372036854775808:=fun p hp=>by
      rw [hL] at hp;have:=rdAll_s _ _ p hp;simp only at this;omega
    have hP:=fun (d : Dat) (n : Int) (e : datOf o (rdL (kindsO o) b) = d) (e4 : fourN (rdL (kindsO o) b) = n)=>show drdP o b ↔ dmayP d ∧ hasP o d ∧ n = (if d.add then 0 else 1) by
      rw [drdP,e,e4];exact ⟨fun h=>h.2.2,fun h=>⟨h1,hok,h⟩⟩
    have hD : drdP o b → drdD o b = datOf o (rdL (kindsO o) b):=fun h=>by rw [drdD,if_pos h]
    have hD0 : ¬ drdP o b → drdD o b = dat0:=fun h=>by rw [drdD,if_neg h]
    have hE : drdP o b → 0 = drdE o b:=fun h=>by rw [drdE,if_pos h1,if_pos h]
    have hE0 : ¬ drdP o b → 40 = drdE o b:=fun h=>by rw [drdE,if_pos h1,if_neg h]
    generalize rdL (kindsO o) b = L at *
    obtain ⟨q0,q1,q2,q3,q4,q5,q6,rfl⟩:=seven hL7
    repeat' first
 | (apply p1 (hd:=rfl);case hop=>first|(apply D_move;rfl)|(apply D_assign;rfl)|(apply D_int;rfl;rfl;rfl)|exact D_build rfl)
 | refine W_seq ?_
 | refine W_region ?_
 | (refine idC ?_;first|refine c1 rfl ?_|refine cs rfl (fun _=>?_) (fun _=>?_))
 | refine WL_nil ?_
 | refine tn ?_
 | refine tr ?_
 | refine bn ?_
 | refine W_skip ?_
 | refine W_block ?_
 | refine W_ret ?_
 | (refine idR ?_;first|refine rL2 rfl (by first|exact trivial|exact ⟨rfl,trivial⟩) (by exact ResO.cellBA rfl rfl rfl) (by exact ResO.tmp rfl) ?_ ?_)
 | (refine idLd ?_;refine p1L (D_loadBA rfl rfl rfl) rfl ?_)
 | (refine idS ?_;refine pS (S_store rfl rfl rfl rfl rfl rfl rfl) ?_)
 | refine Le.int ?_
 | (refine idW ?_;refine W_draw0 rfl ?_)
 | (apply d1 (hd:=rfl);case hop=>first|(apply D_move;rfl)|(apply D_pc (dmay_pc ⟨q0.n,q1.n,q2.v,q3.n,iEq q4.n 0,q5.n,q6.n⟩ (hv q2 (by simp)));rfl;exact .same rfl .nil)|(apply D_pc (dhas_pc o ⟨q0.n,q1.n,q2.v,q3.n,iEq q4.n 0,q5.n,q6.n⟩);rfl;exact .same rfl (.same rfl .nil))|(apply D_pc (added_pc ⟨q0.n,q1.n,q2.v,q3.n,iEq q4.n 0,q5.n,q6.n⟩);rfl;exact .same rfl .nil)|(apply D_pc (dmay_pc ⟨q1.n,q0.n,q2.v,q3.n,iEq q4.n 0,q5.n,q6.n⟩ (hv q2 (by simp)));rfl;exact .same rfl .nil)|(apply D_pc (dhas_pc o ⟨q1.n,q0.n,q2.v,q3.n,iEq q4.n 0,q5.n,q6.n⟩);rfl;exact .same rfl (.same rfl .nil))|(apply D_pc (added_pc ⟨q1.n,q0.n,q2.v,q3.n,iEq q4.n 0,q5.n,q6.n⟩);rfl;exact .same rfl .nil)|(apply D_pc (dmay_pc ⟨q2.n,q0.n,q1.v,q3.n,iEq q4.n 0,q5.n,q6.n⟩ (hv q1 (by simp)));rfl;exact .same rfl .nil)|(apply D_pc (dhas_pc o ⟨q2.n,q0.n,q1.v,q3.n,iEq q4.n 0,q5.n,q6.n⟩);rfl;exact .same rfl (.same rfl .nil))|(apply D_pc (added_pc ⟨q2.n,q0.n,q1.v,q3.n,iEq q4.n 0,q5.n,q6.n⟩);rfl;exact .same rfl .nil)|(apply D_pc (dmay_pc ⟨q2.n,q1.n,q0.v,q3.n,iEq q4.n 0,q5.n,q6.n⟩ (hv q0 (by simp)));rfl;exact .same rfl .nil)|(apply D_pc (dhas_pc o ⟨q2.n,q1.n,q0.v,q3.n,iEq q4.n 0,q5.n,q6.n⟩);rfl;exact .same rfl (.same rfl .nil))|(apply D_pc (added_pc ⟨q2.n,q1.n,q0.v,q3.n,iEq q4.n 0,q5.n,q6.n⟩);rfl;exact .same rfl .nil)|(apply D_load1;rfl)|(apply D_fld;rfl)|(apply D_pickT;rfl;rfl)|(apply D_pickF;rfl;rfl)|(apply D_int;rfl;rfl;rfl)|(apply D_not;rfl)|(apply D_loadW;rfl;rfl)|(apply D_idxAn;rfl;rfl;(first|omega|(simp;done)))|exact D_build rfl|exact D_fldB rfl)
 | (refine idDg ?_;first|refine dg0f rfl rfl rfl ?_|refine dgr rfl rfl ?_|refine dgs rfl rfl (fun _=>?_) (fun _=>?_))
 | (refine idDn ?_;first|refine dL _ (fun hp' hs=>D_loadBA rfl (hs.trans rfl) rfl) rfl ?_|refine dS (S_store rfl rfl rfl rfl rfl rfl rfl) rfl ?_|refine dV (S_alloc 5 rfl) rfl rfl ?_)
 | (refine WD_nil (by first|decide +kernel|kernel_rfl|rfl) ?_)
    all_goals
      first
      | have hdt : datOf o [q0,q1,q2,q3,q4,q5,q6] = ⟨q0.n,q1.n,q2.v,q3.n,iEq q4.n 0,q5.n,q6.n⟩:=by simp only [datOf];rw [if_pos (by assumption)]
      | have hdt : datOf o [q0,q1,q2,q3,q4,q5,q6] = ⟨q1.n,q0.n,q2.v,q3.n,iEq q4.n 0,q5.n,q6.n⟩:=by simp only [datOf];rw [if_neg (by assumption),if_pos (by assumption)]
      | have hdt : datOf o [q0,q1,q2,q3,q4,q5,q6] = ⟨q2.n,q0.n,q1.v,q3.n,iEq q4.n 0,q5.n,q6.n⟩:=by simp only [datOf];rw [if_neg (by assumption),if_neg (by assumption),if_pos (by assumption)]
      | have hdt : datOf o [q0,q1,q2,q3,q4,q5,q6] = ⟨q2.n,q1.n,q0.v,q3.n,iEq q4.n 0,q5.n,q6.n⟩:=by simp only [datOf];rw [if_neg (by assumption),if_neg (by assumption),if_neg (by assumption)]
      have hq:=hP _ q4.n hdt rfl
      first
      | (refine Eq.trans ?_ (hE (hq.2 ⟨by assumption,by assumption,by assumption⟩));rfl)
      | (rw [hD (hq.2 ⟨by assumption,by assumption,by assumption⟩),hdt];exact Le.of_eq rfl)
      | (have hn : ¬ drdP o b:=fun h=>by have h3:=hq.1 h;first|exact absurd h3.1 (by assumption)|exact absurd h3.2.1 (by assumption)|exact absurd h3.2.2 (by assumption)
         first
           | exact hE0 hn
           | (rw [hD0 hn];exact Le.of_eq rfl))
theorem numR_from (l : List UInt8) (v : Nat) : l.foldl (fun v c=>(v * 256 + c.toNat) % 18446744073709551616) v % 18446744073709551616 = (v * 256 ^ l.length + numR l) % 18446744073709551616:=by
  induction l generalizing v with
  | nil=>simp [numR]
  | cons c l ih =>
    have e : numR (c :: l) % 18446744073709551616 = (c.toNat * 256 ^ l.length + numR l) % 18446744073709551616:=by
      have:=ih ((0 * 256 + c.toNat) % 18446744073709551616)
      have hc:=UInt8.toNat_lt c
      rw [Nat.mod_eq_of_lt (show 0 * 256 + c.toNat < 18446744073709551616 by omega)] at this
      simp only [Nat.zero_mul,Nat.zero_add] at this
      rw [← this]
      simp only [numR,List.foldl_cons,Nat.zero_mul,Nat.zero_add]
      rw [Nat.mod_eq_of_lt (show c.toNat < 18446744073709551616 by omega)]
    simp only [List.foldl_cons,List.length_cons]
    rw [ih,Nat.add_mod,Nat.mul_mod,Nat.mod_mod,← Nat.mul_mod,← Nat.add_mod,Nat.add_mod (v * 256 ^ (l.length + 1)),e,← Nat.add_mod]
    congr 1
    rw [Nat.pow_succ,Nat.add_mul]
    have : v * (256 ^ l.length * 256) = v * 256 * 256 ^ l.length:=by rw [Nat.mul_assoc v,Nat.mul_comm 256]
    omega
theorem pow256_le {i : Nat} (h : i ≤ 8) : (256 : Nat) ^ i ≤ 18446744073709551616:=by rw [← pow256];exact Nat.pow_le_pow_right (by decide) h
theorem numR_cons (c : UInt8) (l : List UInt8) (h : l.length ≤ 7) : numR (c :: l) = c.toNat * 256 ^ l.length + numR l ∧ numR l < 256 ^ l.length:=by
  induction l generalizing c with
  | nil =>
    simp [numR]
  | cons d l ih =>
    obtain ⟨h1,h2⟩:=ih d (by simp at h;omega)
    have hd:=UInt8.toNat_lt d
    have hc:=UInt8.toNat_lt c
    have hlt : numR (d :: l) < 256 ^ (d :: l).length:=by
      rw [h1,List.length_cons,Nat.pow_succ]
      have : d.toNat * 256 ^ l.length ≤ 255 * 256 ^ l.length:=Nat.mul_le_mul_right _ (by omega)
      omega
    refine ⟨?_,hlt⟩
    have e:=numR_from (d :: l) c.toNat
    have e2 : numR (c :: d :: l) = (d :: l).foldl (fun v c=>(v * 256 + c.toNat) % 18446744073709551616) c.toNat:=by
      simp only [numR,List.foldl_cons,Nat.zero_mul,Nat.zero_add,Nat.mod_eq_of_lt (show c.toNat < 18446744073709551616 by omega)]
    have hb : c.toNat * 256 ^ (d :: l).length + numR (d :: l) < 18446744073709551616:=by
      have hp : (256 : Nat) ^ ((d :: l).length + 1) ≤ 18446744073709551616:=pow256_le (by omega)
      rw [Nat.pow_succ] at hp
      have : c.toNat * 256 ^ (d :: l).length ≤ 255 * 256 ^ (d :: l).length:=Nat.mul_le_mul_right _ (by omega)
      omega
    rw [Nat.mod_eq_of_lt hb,← e2,Nat.mod_eq_of_lt (numR_lt _)] at e
    exact e
theorem numR_lowb (V : Nat) : ∀ i,i ≤ 8 → numR (lowb V i) = V % 256 ^ i
  | 0,_=>by simp [lowb,numR,Nat.mod_one]
  | i + 1,h=>by
    have ih:=numR_lowb V i (by omega)
    have hl:=lowb_len V i
    obtain ⟨h1,_⟩:=numR_cons (nb V i) (lowb V i) (by omega)
    have e1:=Nat.mod_mul (x:=V) (a:=256 ^ i) (b:=256)
    simp only [lowb]
    rw [h1,hl,ih,Nat.pow_succ,e1]
    simp only [nb,UInt8.toNat_ofNat']
    rw [Nat.mul_comm,Nat.add_comm]
theorem wrapN (m : Nat) (h : m < 18446744073709551616) : IntKind.i64.wrap (m : Int) = if m < 9223372036854775808 then (m : Int) else (m : Int) - 18446744073709551616:=by
  simp only [IntKind.wrap,IntKind.bits,IntKind.signed,Bool.true_and]
  by_cases h1 : m < 9223372036854775808
  · rw [if_pos h1,if_neg (by simp;omega)];omega
  · rw [if_neg h1,if_pos (by simp;omega)];omega
theorem numV_num8 {n : Int} (h : i64P n) : numV (num8 n) = n:=by
  have h1:=num64_i n
  have h2:=num64_lt n
  unfold numV num8
  rw [numR_lowb _ 8 (by omega),pow256,Nat.mod_eq_of_lt h2]
  unfold i64P at h
  rw [wrapN _ (Nat.mod_lt _ (by decide))]
  split <;> omega
theorem rdT_text (x : List UInt8) : ∀ (s : List UInt8),rdT (textB s ++ x) = (s,x,false)
  | []=>by simp [textB,esc,rdT]
  | c :: s=>by
    have ih:=rdT_text x s
    by_cases h : c = 0
    · have e : textB (c :: s) ++ x = 0 :: 255 :: (textB s ++ x):=by simp [textB,esc,h]
      rw [e];simp [rdT,ih,h]
    · have e : textB (c :: s) ++ x = c :: (textB s ++ x):=by simp [textB,esc,h]
      rw [e,rdT_cons c _ h,ih]
theorem takeB_cons (c : UInt8) (b : List UInt8) : takeB (c :: b) false 1 = b ∧ takeX (c :: b) false 1 = false ∧ hd1 (c :: b) false = c:=by
  have h : takeX (c :: b) false 1 = false:=by simp [takeX]
  refine ⟨?_,h,?_⟩
  · unfold takeB;rw [if_neg (by rw [h];exact Bool.false_ne_true)];rfl
  · unfold hd1;rw [if_neg (by rw [h];exact Bool.false_ne_true)];rfl
theorem take8_app {l b : List UInt8} (hl : l.length = 8) : takeX (l ++ b) false 8 = false ∧ takeB (l ++ b) false 8 = b ∧ takeV (l ++ b) false 8 = l:=by
  have h : takeX (l ++ b) false 8 = false:=by simp [takeX,hl]
  refine ⟨h,?_,?_⟩
  · unfold takeB;rw [if_neg (by rw [h];exact Bool.false_ne_true),← hl,List.drop_left]
  · unfold takeV;rw [if_neg (by rw [h];exact Bool.false_ne_true),← hl,List.take_left]
theorem rdVal_valB {v : Val} {x : List UInt8} (hm : mayB v = true) (hi : i64P v.n) : rdVal (valB v ++ x) false = (v,x,false):=by
  have hk:=kind_of hm
  have hc:=MayP_cases hm
  have e0 : valB v ++ x = u8i v.kind :: ((if v.kind = 2 then [u8i v.n] else if v.kind = 3 ∨ v.kind = 4 ∨ v.kind = 7 then textB v.s else num8 v.n) ++ x):=by simp [valB]
  rw [e0]
  have ek:=u8i_nat v.kind (by omega) (by omega)
  generalize hT : ((if v.kind = 2 then [u8i v.n] else if v.kind = 3 ∨ v.kind = 4 ∨ v.kind = 7 then textB v.s else num8 v.n) ++ x) = T
  obtain ⟨t1,t2,t3⟩:=takeB_cons (u8i v.kind) T
  simp only [rdVal,t1,t2,t3,ek]
  by_cases h2 : v.kind = 2
  · rw [if_pos h2] at hT ⊢
    subst hT
    obtain ⟨q1,q2,q3⟩:=takeB_cons (u8i v.n) x
    have hn : 0 ≤ v.n ∧ v.n ≤ 1 ∧ v.s = []:=by
      rcases hc with h|h|h|h
      · omega
      · exact ⟨h.2.2.1,h.2.2.2,h.2.1⟩
      · omega
      · omega
    have en:=u8i_nat v.n hn.1 (by omega)
    have ev : (⟨v.kind,((u8i v.n).toNat : Int),[]⟩ : Val) = v:=by
      obtain ⟨k,n,s⟩:=v
      simp only at *;rw [en,hn.2.2]
    simp only [List.cons_append,List.nil_append,q1,q2,q3,ev,hm]
    rfl
  · rw [if_neg h2] at hT ⊢
    by_cases h3 : v.kind = 3 ∨ v.kind = 4 ∨ v.kind = 7
    · rw [if_pos h3] at hT ⊢
      subst hT
      have hn : v.n = 0:=by
        rcases hc with h|h|h|h
        · omega
        · omega
        · exact h.2
        · omega
      have er : rdTx (textB v.s ++ x) false = (v.s,x,false):=by rw [rdTx,if_neg Bool.false_ne_true,rdT_text]
      have ev : (⟨v.kind,0,v.s⟩ : Val) = v:=by
        obtain ⟨k,n,s⟩:=v
        simp only at *;rw [hn]
      simp only [er,ev,hm]
      rfl
    · rw [if_neg h3] at hT ⊢
      subst hT
      obtain ⟨q1,q2,q3⟩:=take8_app (b:=x) (num8_len v.n)
      have hs : v.s = []:=by
        rcases hc with h|h|h|h
        · exact h.2
        · exact h.2.1
        · exact absurd h.1 h3
        · exact h.2
      have ev : (⟨v.kind,v.n,[]⟩ : Val) = v:=by
        obtain ⟨k,n,s⟩:=v
        simp only at *;rw [hs]
      simp only [q1,q2,q3,numV_num8 hi,ev,hm]
      rfl
def canP (p : Prt) : Prop:=p = if p.value then prtV p.v else prtN p.n
theorem rdAll_key : ∀ (l : List Prt) (x : List UInt8),(∀ p,p ∈ l → PartP p ∧ prtI p ∧ canP p) → rdAll (l.map Prt.value) (l.flatMap partB ++ x,false) = (l,x,false)
  | [],x,_=>by simp [rdAll]
  | p :: l,x,h=>by
    have hp:=h p (.head _)
    have ih:=rdAll_key l x fun q hq=>h q (.tail _ hq)
    have e : rdPart p.value (((p :: l).flatMap partB ++ x),false) = (p,l.flatMap partB ++ x,false):=by
      rw [List.flatMap_cons,List.append_assoc]
      generalize l.flatMap partB ++ x = T
      unfold rdPart partB
      by_cases hv : p.value = true
      · rw [if_pos hv,if_pos hv,rdVal_valB (hp.1 hv) hp.2.1.2]
        have:=hp.2.2
        rw [canP,if_pos hv] at this
        rw [← this]
      · rw [if_neg hv,if_neg hv]
        obtain ⟨q1,q2,q3⟩:=take8_app (b:=T) (num8_len p.n)
        simp only [q1,q2,q3,numV_num8 hp.2.1.1]
        have:=hp.2.2
        rw [canP,if_neg hv] at this
        rw [← this]
    rw [List.map_cons,rdAll,e]
    simp only [Bool.false_eq_true,if_false,ih]
noncomputable instance : DecidableEq Val:=fun _ _=>Classical.propDecidable _
theorem part7_can {o : Int} {d : Dat} : ∀ p,p ∈ part7 o d → canP p:=part7_all rfl (fun _=>rfl)
theorem iEq_add (b : Bool) : iEq (if b then 0 else 1) 0 = b:=by cases b <;> simp [iEq]
theorem datOf_part7 {o : Int} (d : Dat) : datOf o (part7 o d) = d:=by
  obtain ⟨e,a,v,t,add,fr,to⟩:=d
  simp only [part7,datOf]
  by_cases h1 : o = 1
  · subst h1;simp [fst1,fst2,fst3,prtN,prtV,iEq_add]
  · by_cases h2 : o = 2
    · subst h2;simp [fst1,fst2,fst3,prtN,prtV,iEq_add]
    · by_cases h3 : o = 3
      · subst h3;simp [fst1,fst2,fst3,prtN,prtV,iEq_add]
      · simp [fst1,fst2,fst3,prtN,prtV,iEq_add,h1,h2,h3]
theorem key_read {o : Int} {d : Dat} (hi : datI d) (h : dkeyE o d = 0) : drdE o (dkeyB o d) = 0 ∧ drdD o (dkeyB o d) = d:=by
  obtain ⟨h1,h2,h3,h4⟩:=dkey_ok h
  have hr:=rdAll_key (part7 o d) [] fun p hp=>⟨part7_P h2.2.2.2.2.1 p hp,part7_I hi p hp,part7_can p hp⟩
  rw [List.append_nil,part7_val,← h4] at hr
  have hok : rdOK (kindsO o) (dkeyB o d):=by rw [rdOK,hr];exact ⟨rfl,rfl⟩
  have hL : rdL (kindsO o) (dkeyB o d) = part7 o d:=by rw [rdL,if_pos hok,hr]
  have hP : drdP o (dkeyB o d):=by
    refine ⟨h1,hok,?_⟩
    rw [hL,datOf_part7]
    exact ⟨h2,h3,rfl⟩
  refine ⟨by rw [drdE,if_pos h1,if_pos hP],by rw [drdD,if_pos hP,hL,datOf_part7]⟩
end Go.Proofs
