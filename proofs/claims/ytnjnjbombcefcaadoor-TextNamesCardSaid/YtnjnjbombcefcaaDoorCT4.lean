/- Contracts of the program's texts of values. -/
import Derived.Test.YtnjnjbombcefcaaDoorCDInst
import Derived.Test.YtnjnjbombcefcaaDoorOps19
import Derived.Lib.ItoaLen
import Derived.Lib.ParseIntBTie
import Derived.Test.YtnjnjbombcefcaaDoorOps7
set_option linter.all false
namespace Go.Proofs
open Go.AL
attribute [local irreducible] Go.AL.W Go.AL.WL Go.AL.WD Go.AL.POp Go.AL.PPOp Go.AL.POpS Go.AL.PC Go.AL.AC Go.AL.YW Go.AL.Ret Go.AL.Le Go.AL.thn Go.AL.inBlk Go.AL.scp
abbrev digs : List UInt8:=[48,49,50,51,52,53,54,55,56,57,97,98,99,100,101,102]
theorem hx1 (c : UInt8) : c.toNat / 16 < digs.length:=by have:=c.toNat_lt;show _ < 16;omega
theorem hx2 (c : UInt8) : c.toNat % 16 < digs.length:=by show _ < 16;omega
def hexL (c : UInt8) : List UInt8:=[digs[c.toNat / 16]'(hx1 c),digs[c.toNat % 16]'(hx2 c)]
def plainP (c : UInt8) : Prop:=32 ≤ c.toNat ∧ c.toNat ≤ 126 ∧ c.toNat ≠ 34 ∧ c.toNat ≠ 92
noncomputable def plainB (c : UInt8) : Bool:=dP (plainP c)
theorem plainB_t (c : UInt8) : plainB c = true ↔ plainP c:=by unfold plainB;rw [dP_t]
theorem plainB_f (c : UInt8) : plainB c = false ↔ ¬ plainP c:=by unfold plainB;rw [dP_f]
set_option maxHeartbeats 4000000 in
theorem plain_pc [GlobF Tryd.prog] (c : UInt8) : PC Tryd.prog 138 [.sc (.int .u8 c.toNat)] (.sc (.bool (plainB c))):=by
  refine PC.of_body Tryd.func138 Tryd.ntmps138 rfl rfl rfl ?_
  repeat' first
 | (apply p1 (hd:=rfl);case hop=>first|(apply D_move;rfl)|(apply D_assign;rfl)|(apply D_pickT;rfl;rfl)|(apply D_pickF;rfl;rfl)|(apply D_int;rfl;rfl;rfl))
 | refine W_seq ?_
 | refine W_region ?_
 | refine WL_nil ?_
 | (refine idG ?_;first|refine g0t rfl rfl rfl ?_|refine gr rfl rfl ?_|refine gs rfl rfl (fun _=>?_) (fun _=>?_))
 | refine tn ?_
 | refine W_ret ?_
 | (refine idR ?_;refine ret1 rfl rfl rfl ?_)
 | (refine Le.bool ?_)
  all_goals (refine dP_eq ?_;simp only [plainP,iLe_t,bNot_t,iEq_t,iEq_f,Bool.false_eq_true,false_iff];omega)
set_option maxHeartbeats 4000000 in
theorem hex_pc [GlobF Tryd.prog] (c : UInt8) : PC Tryd.prog 142 [.sc (.int .u8 c.toNat)] (str (hexL c)):=by
  refine PC.of_body Tryd.func142 Tryd.ntmps142 rfl rfl rfl ?_
  repeat' first
 | (apply p1 (hd:=rfl);case hop=>first|(apply D_assign;rfl))
 | refine W_seq ?_
 | refine W_region ?_
 | refine WL_nil ?_
 | refine tn ?_
 | refine W_ret ?_
 | (refine idR ?_;refine ret1 rfl rfl rfl ?_)
 | refine Le.str ?_
 | (refine idW ?_;refine W_draw0 rfl ?_)
 | (apply d1 (hd:=rfl);case hop=>first|(apply D_move;rfl)|(apply D_assign;rfl)|exact D_sc (D_shr rfl rfl (by decide)) (congrArg _ (shr4' c))|exact D_sc (D_and rfl rfl) (congrArg _ (and15' c))|(apply D_idxSn (l:=digs);rfl;rfl;first|exact hx1 c|exact hx2 c)|exact D_b2s (l:=hexL c) rfl|(apply D_lit;rfl;rfl;rfl;rfl))
 | (refine WD_nil (by first|decide +kernel|kernel_rfl|rfl) ?_)
  all_goals rfl
set_option maxHeartbeats 4000000 in
theorem fmtBool_pc [GlobF Tryd.prog] (b : Bool) : PC Tryd.prog 152 [.sc (.bool b)] (str (if b then [116,114,117,101] else [102,97,108,115,101])):=by
  refine PC.of_body Tryd.func152 Tryd.ntmps152 rfl rfl rfl ?_
  repeat' first
 | (apply p1 (hd:=rfl);case hop=>first|(apply D_move;rfl)|(apply D_assign;rfl))
 | refine W_seq ?_
 | refine W_region ?_
 | (refine idC ?_;refine cs rfl (fun _=>?_) (fun _=>?_))
 | refine WL_nil ?_
 | refine tn ?_
 | refine tr ?_
 | refine W_skip ?_
 | refine W_ret ?_
 | (refine idR ?_;refine ret1 rfl rfl rfl ?_)
 | (refine Le.str ?_)
  all_goals subst_vars;rfl
set_option maxHeartbeats 4000000 in
theorem fmtB_pc [GlobF Tryd.prog] (b : Bool) : PC Tryd.prog 141 [.sc (.bool b)] (str (if b then [116,114,117,101] else [102,97,108,115,101])):=by
  refine PC.of_body Tryd.func141 Tryd.ntmps141 rfl rfl rfl ?_
  repeat' first
 | (apply p1 (hd:=rfl);case hop=>first|(apply D_move;rfl)|(apply D_assign;rfl)|(apply D_pc (fmtBool_pc b);rfl;exact .same rfl .nil))
 | refine W_seq ?_
 | refine W_region ?_
 | refine WL_nil ?_
 | refine tn ?_
 | refine W_ret ?_
 | (refine idR ?_;refine ret1 rfl rfl rfl ?_)
 | (refine Le.str ?_)
  all_goals rfl
open Classical in
noncomputable def escL (c : UInt8) : List UInt8:=if plainP c then [c] else 92 :: hexL c
noncomputable def textL (v : Val) : List UInt8 :=
  if v.kind = 1 then Lib.itoa v.n else if v.kind = 2 then (if v.n = 1 then [116,114,117,101] else [102,97,108,115,101]) else if v.kind = 5 then 64 :: Lib.itoa v.n else if v.kind = 6 then 33 :: Lib.itoa v.n
  else if v.kind = 7 then 58 :: v.s else if v.kind = 4 then 35 :: v.s.flatMap hexL else 34 :: (v.s.flatMap escL ++ [34])
noncomputable def tL (v : Val) : List UInt8:=if mayB v then textL v else []
abbrev bH (p : AV) (l : List UInt8) : List AObj:=[.cells (bCells p 1 l []) (some 89),.tail l.length 1 5]
theorem bH_B {p : AV} {l : List UInt8} (hp : ownP 0 p) (hl : l.length < 1099511627776) : Bld (bH p l) 0 1 89 p l []:=⟨rfl,rfl,hp,hl⟩
theorem bH_next {p : AV} {l : List UInt8} (m : List UInt8) : bldH (bH p l) 0 1 89 m [] = bH (.bp 0 0) m:=rfl
theorem hexs_len (l : List UInt8) : (l.flatMap hexL).length = 2 * l.length:=by
  induction l with
  | nil=>rfl
  | cons c l ih=>rw [List.flatMap_cons,List.length_append,ih];show 2 + _ = _;rw [List.length_cons];omega
theorem escs_len (l : List UInt8) : (l.flatMap escL).length ≤ 3 * l.length:=by
  induction l with
  | nil=>exact Nat.le_refl _
  | cons c l ih =>
    rw [List.flatMap_cons,List.length_append,List.length_cons]
    have : (escL c).length ≤ 3:=by unfold escL;split <;> simp [hexL]
    omega
theorem flatMap_take {α : Type} (f : UInt8 → List α) (s : List UInt8) (i : Nat) (hi : i < s.length) : (s.take (i + 1)).flatMap f = (s.take i).flatMap f ++ f s[i]:=by
  rw [List.take_succ_eq_append_getElem hi,List.flatMap_append];simp
theorem mayB_t (v : Val) : (mayB v = true) = MayP v:=by unfold mayB;rw [dP_t]
theorem mayB_f (v : Val) : (mayB v = false) = ¬ MayP v:=by unfold mayB;rw [dP_f]
theorem tL_t {v : Val} (h : MayP v) : tL v = textL v:=by unfold tL;rw [if_pos ((mayB_t v).mpr h)]
theorem tL_f {v : Val} (h : ¬ MayP v) : tL v = []:=by unfold tL;rw [if_neg (by rw [mayB_t];exact h)]
theorem tE_t {v : Val} (h : MayP v) : (if mayB v then (0 : Int) else 10) = 0:=by rw [if_pos ((mayB_t v).mpr h)]
theorem tE_f {v : Val} (h : ¬ MayP v) : (if mayB v then (0 : Int) else 10) = 10:=by rw [if_neg (by rw [mayB_t];exact h)]
set_option maxHeartbeats 16000000 in
theorem text_pc [GlobF Tryd.prog] (hp : PowOK) (v : Val) (hs : v.s.length < 268435456) (h0 : -9223372036854775808 ≤ v.n) (h1 : v.n ≤ 9223372036854775807) : PC Tryd.prog 121 [eV v] (.tu [str (tL v),.sc (.int .i64 (if mayB v then 0 else 10))]):=by
  have hil:=Lib.itoa_length_le v.n h0 h1
  refine PC.of_body Tryd.func121 Tryd.ntmps121 rfl rfl rfl ?_
  repeat' first
 | (refine m_allocT rfl ?_;refine WL_adoptC 0 1 1 5 rfl rfl ?_)
 | (apply p1 (hd:=rfl);case hop=>first|(apply D_move;rfl)|(apply D_assign;rfl)|(apply D_pc (may_pc v (by omega));rfl;exact .same rfl .nil)|(apply D_pc (fmt_pc hp v.n h0 h1);rfl;exact .same rfl (.same rfl .nil))|(apply D_pc (fmtB_pc _);rfl;exact .same rfl .nil)|(apply D_cat;rfl;rfl;focus (simp only [List.length_cons,List.length_nil,List.length_append];omega))|(apply D_load1;rfl)|(apply D_fld;rfl)|(apply D_int;rfl;rfl;rfl)|(apply D_lenM;rfl)|(apply D_not;rfl)|(apply D_loadW;rfl;rfl)|(apply D_box;rfl;rfl)|(apply D_s2b;rfl))
 | refine W_seq ?_
 | refine W_region ?_
 | (refine idC ?_;refine cs rfl (fun _=>?_) (fun _=>?_))
 | refine WL_nil ?_
 | refine tn ?_
 | refine tr ?_
 | refine br ?_
 | refine bn ?_
 | refine W_skip ?_
 | refine W_block ?_
 | refine W_ret ?_
 | (refine idR ?_;refine ret2 rfl rfl rfl rfl ?_ ?_)
 | refine Le.int ?_
 | refine Le.str ?_
 | (refine m_call (d:=44) (wbyte_ac (n:=2) rfl (bH_B (l:=[]) (.inl rfl) (by decide)) 35) rfl rfl rfl ?_;rintro _ _ ⟨rfl,rfl⟩;rw [bH_next])
 | (refine m_call (d:=58) (wbyte_ac (n:=2) rfl (bH_B (l:=[]) (.inl rfl) (by decide)) 34) rfl rfl rfl ?_;rintro _ _ ⟨rfl,rfl⟩;rw [bH_next])
  all_goals first
    | (rename_i hm;rw [tL_f hm];done)
    | (rename_i hm;rw [tE_f hm];done)
    | (rw [tE_t (by assumption)];done)
    | (rw [tL_t (by assumption)];simp [textL,iEq, *];done)
    | skip
  · rename_i hm k1 k2 k5 k6 k7 k4
    refine W_loopL (X:=Nat) (fun i=>[(4,.bp 0 0),(47,bytesAV v.s),(48,.sc (.int .i64 (v.s.length : Int))),(49,.sc (.int .i64 (i : Int)))]) (fun i=>bH (.bp 0 0) (35 :: (v.s.take i).flatMap hexL))
      (fun i=>i ≤ v.s.length) (fun i=>v.s.length - i) 0 (Nat.zero_le _) ⟨rfl,rfl,rfl,rfl,trivial⟩ rfl ?_
    intro i hi
    have hlen : (35 :: (v.s.take i).flatMap hexL).length < 1099511627776:=by
      rw [List.length_cons,hexs_len,List.length_take];omega
    repeat' first
 | (apply p1 (hd:=rfl);case hop=>first|(apply D_move;rfl)|(apply D_assign;rfl)|(apply D_pc (hex_pc _);rfl;exact .same rfl .nil)|(apply D_load1;rfl)|(apply D_int;rfl;rfl;rfl)|(apply D_idxAn;rfl;rfl;(first|omega|(simp;done))))
 | refine W_seq ?_
 | refine W_region ?_
 | (refine idC ?_;refine cs rfl (fun _=>?_) (fun _=>?_))
 | refine WL_nil ?_
 | refine tn ?_
 | refine tr ?_
 | refine br ?_
 | refine bn ?_
 | refine te ?_
 | (refine idB ?_;refine bh rfl ?_)
 | refine W_skip ?_
 | refine W_block ?_
 | refine W_exit ?_
 | refine W_ret ?_
 | (refine idR ?_;refine ret2 rfl rfl rfl rfl ?_ ?_)
 | refine Le.int ?_
 | refine Le.str ?_
 | (refine m_call (d:=55) (wstr_ac (n:=2) rfl (bH_B (.inr rfl) hlen) (hexL _) (by show 2 < _;decide)) rfl rfl rfl ?_;rintro _ _ ⟨rfl,rfl⟩;rw [bH_next])
 | (refine m_call (d:=57) (bstr_ac (bH_B (.inr rfl) hlen)) rfl rfl rfl ?_;rintro _ _ ⟨rfl,rfl⟩)
    · have hi' : i < v.s.length:=by omega
      exact ⟨rfl,i + 1,by omega,by omega,⟨rfl,rfl,rfl,ieq (wsucc i (by omega)),trivial⟩,by rw [flatMap_take _ _ _ hi'];rfl⟩
    · rw [tL_t hm,List.take_of_length_le (by omega)];simp [textL, *]
    · rw [tE_t hm]
  · rename_i hm k1 k2 k5 k6 k7 k4
    refine W_loopL (X:=Nat) (fun i=>[(4,.bp 0 0),(61,bytesAV v.s),(62,.sc (.int .i64 (v.s.length : Int))),(63,.sc (.int .i64 (i : Int)))]) (fun i=>bH (.bp 0 0) (34 :: (v.s.take i).flatMap escL))
      (fun i=>i ≤ v.s.length) (fun i=>v.s.length - i) 0 (Nat.zero_le _) ⟨rfl,rfl,rfl,rfl,trivial⟩ rfl ?_
    intro i hi
    have hlen : (34 :: (v.s.take i).flatMap escL).length < 805306370:=by
      rw [List.length_cons];have:=escs_len (v.s.take i);rw [List.length_take] at this;omega
    have hlen2 : (34 :: (v.s.take i).flatMap escL).length < 1099511627776:=by omega
    repeat' first
 | (apply p1 (hd:=rfl);case hop=>first|(apply D_move;rfl)|(apply D_assign;rfl)|(apply D_pc (hex_pc _);rfl;exact .same rfl .nil)|(apply D_pc (plain_pc _);rfl;exact .same rfl .nil)|(apply D_cat;rfl;rfl;focus (first|(show 1 + 2 ≤ _;omega)|(simp only [List.length_cons,List.length_nil] at hlen ⊢;omega)))|(apply D_load1;rfl)|(apply D_int;rfl;rfl;rfl)|(apply D_idxAn;rfl;rfl;(first|omega|(simp;done))))
 | refine W_seq ?_
 | refine W_region ?_
 | (refine idC ?_;refine cs rfl (fun _=>?_) (fun _=>?_))
 | refine WL_nil ?_
 | refine tn ?_
 | refine bn ?_
 | refine te ?_
 | (refine idB ?_;refine bh rfl ?_)
 | refine W_skip ?_
 | refine W_block ?_
 | refine W_exit ?_
 | refine W_ret ?_
 | (refine idR ?_;refine ret2 rfl rfl rfl rfl ?_ ?_)
 | refine Le.int ?_
 | refine Le.str ?_
 | (refine m_call (d:=70) (wbyte_ac (n:=2) rfl (bH_B (.inr rfl) hlen2) _) rfl rfl rfl ?_;rintro _ _ ⟨rfl,rfl⟩;rw [bH_next])
 | (refine m_call (d:=74) (wstr_ac (n:=2) rfl (bH_B (.inr rfl) hlen2) _ (by show 3 < _;decide)) rfl rfl rfl ?_;rintro _ _ ⟨rfl,rfl⟩;rw [bH_next])
 | (refine m_call (d:=76) (bstr_ac (bH_B (.inr rfl) hlen2)) rfl rfl rfl ?_;rintro _ _ ⟨rfl,rfl⟩)
    · have hi' : i < v.s.length:=by omega
      rename_i _ hpl
      have he : escL v.s[i] = [v.s[i]]:=by unfold escL;rw [if_pos ((plainB_t _).mp hpl)]
      exact ⟨rfl,i + 1,by omega,by omega,⟨rfl,rfl,rfl,ieq (wsucc i (by omega)),trivial⟩,by rw [flatMap_take _ _ _ hi',he];rfl⟩
    · have hi' : i < v.s.length:=by omega
      rename_i _ hpl
      have he : escL v.s[i] = 92 :: hexL v.s[i]:=by unfold escL;rw [if_neg ((plainB_f _).mp hpl)]
      exact ⟨rfl,i + 1,by omega,by omega,⟨rfl,rfl,rfl,ieq (wsucc i (by omega)),trivial⟩,by rw [flatMap_take _ _ _ hi',he];rfl⟩
    · rw [tL_t hm,List.take_of_length_le (by omega)];simp [textL, *]
    · rw [tE_t hm]
end Go.Proofs

namespace Go.Proofs
open Go.Lib
def dval (a : Nat) (l : List UInt8) : Nat:=l.foldl (fun a c=>a * 10 + (c.toNat - 48)) a
theorem dval_cons (a : Nat) (c : UInt8) (l : List UInt8) : dval a (c :: l) = dval (a * 10 + (c.toNat - 48)) l:=by unfold dval;rw [List.foldl_cons]
theorem dval_snoc (a : Nat) (c : UInt8) (l : List UInt8) : dval a (l ++ [c]) = dval a l * 10 + (c.toNat - 48):=by unfold dval;rw [List.foldl_append,List.foldl_cons,List.foldl_nil]
theorem dval_ge (l : List UInt8) : ∀ a,a ≤ dval a l:=by
  induction l with
  | nil=>exact fun a=>Nat.le_refl _
  | cons c l ih=>intro a;rw [dval_cons];have:=ih (a * 10 + (c.toNat - 48));omega
def isD (c : UInt8) : Prop:=48 ≤ c.toNat ∧ c.toNat ≤ 57
theorem dgt_toNat {m : Nat} (h : m < 10) : (UInt8.ofNat (48 + m)).toNat = 48 + m:=by
  rw [UInt8.toNat_ofNat'];omega
theorem dec_digs (u : Nat) : ∀ c ∈ decDigits u,isD c:=by
  induction u using Nat.strongRecOn with
  | _ u ih =>
    intro c hc
    rw [decDigits] at hc
    split at hc
    · rename_i h
      simp only [List.mem_cons,List.not_mem_nil,or_false] at hc
      subst hc;unfold isD;rw [dgt_toNat h];omega
    · rename_i h
      simp only [List.mem_append,List.mem_cons,List.not_mem_nil,or_false] at hc
      rcases hc with hc|rfl
      · exact ih (u / 10) (by omega) c hc
      · unfold isD;rw [dgt_toNat (by omega)];omega
theorem dec_val (u : Nat) : dval 0 (decDigits u) = u:=by
  induction u using Nat.strongRecOn with
  | _ u ih =>
    rw [decDigits]
    split
    · rename_i h
      show 0 * 10 + ((UInt8.ofNat (48 + u)).toNat - 48) = u
      rw [dgt_toNat h];omega
    · rename_i h
      rw [dval_snoc,ih (u / 10) (by omega),dgt_toNat (by omega)];omega
theorem dec_ne (u : Nat) : decDigits u ≠ []:=fun h=>by
  have:=decDigits_length u
  have:=nDigits_pos u
  rw [h] at *;simp at *;omega
theorem parse10 : ∀ (l : List UInt8) (a : Nat),(∀ c ∈ l,isD c) → dval a l < 18446744073709551616 → parseUint10 a l = .ok (dval a l)
  | [],a,_,_=>rfl
  | c :: l,a,h,hd=>by
    have hc:=h c (.head _)
    rw [dval_cons] at hd
    have:=dval_ge l (a * 10 + (c.toNat - 48))
    unfold isD at hc
    rw [parseUint10,if_pos hc,if_neg (by omega),if_neg (by omega),dval_cons]
    exact parse10 l _ (fun c hc=>h c (.tail _ hc)) hd
theorem mag_dec {u : Nat} (h : u < 18446744073709551616) : parseMag (decDigits u) = .ok u:=by
  unfold parseMag
  rw [if_neg (dec_ne u),parse10 _ _ (dec_digs u) (by rw [dec_val];exact h),dec_val]
theorem parse_itoa {n : Int} (h0 : -9223372036854775808 ≤ n) (h1 : n ≤ 9223372036854775807) : parseIntB 64 (itoa n) = .ok n:=by
  rw [parseIntB_64]
  by_cases hneg : n < 0
  · obtain ⟨u,rfl⟩ : ∃ u : Nat,n = -(u : Int):=⟨n.natAbs,by omega⟩
    rw [itoa_neg u (by omega),atoiAll_minus,mag_dec (by omega),signed,if_neg (by omega)]
  · obtain ⟨u,rfl⟩ : ∃ u : Nat,n = u:=⟨n.toNat,by omega⟩
    rw [itoa_nonneg]
    have hm:=mag_dec (u:=u) (by omega)
    cases hd : decDigits u with
    | nil=>exact absurd hd (dec_ne u)
    | cons c r =>
      have hc:=dec_digs u c (by rw [hd];exact .head _)
      unfold isD at hc
      rw [atoiAll_plain c r (by omega) (by omega),← hd,hm,signless,if_neg (by omega)]
theorem itoa_inj {n m : Int} (h0 : -9223372036854775808 ≤ n) (h1 : n ≤ 9223372036854775807) (g0 : -9223372036854775808 ≤ m) (g1 : m ≤ 9223372036854775807) (e : itoa n = itoa m) : n = m:=by
  have a:=parse_itoa h0 h1
  have b:=parse_itoa g0 g1
  rw [e,b] at a;injection a with a;exact a.symm
def NumP (s : List UInt8) (n : Int) : Prop:=-9223372036854775808 ≤ n ∧ n ≤ 9223372036854775807 ∧ itoa n = s
theorem NumP.inj {s : List UInt8} {n m : Int} (h : NumP s n) (h' : NumP s m) : n = m:=itoa_inj h.1 h.2.1 h'.1 h'.2.1 (h.2.2.trans h'.2.2.symm)
end Go.Proofs

namespace Go.Proofs
open Go.AL
theorem pB_iff (s : List UInt8) : pB s = true ↔ ∃ n,NumP s n:=by
  constructor
  · intro h
    unfold pB at h
    simp only [Bool.and_eq_true,decide_eq_true_eq] at h
    exact ⟨pN s,(pN_rng s).1,(pN_rng s).2,h.2⟩
  · rintro ⟨n,h0,h1,rfl⟩
    have hp:=parse_itoa h0 h1
    have e1 : pN (Lib.itoa n) = n:=by unfold pN;rw [hp]
    have e2 : pOK (Lib.itoa n) = true:=by unfold pOK;rw [hp]
    unfold pB;rw [e1,e2];simp
theorem pN_of {s : List UInt8} {n : Int} (h : NumP s n) : pN s = n:=by
  obtain ⟨h0,h1,rfl⟩:=h
  unfold pN;rw [parse_itoa h0 h1]
def numO (s : List UInt8) : Option Int:=if pB s then some (pN s) else none
theorem numO_iff {s : List UInt8} {n : Int} : numO s = some n ↔ NumP s n:=by
  unfold numO
  constructor
  · intro h
    split at h
    · rename_i hb
      cases h
      obtain ⟨m,hm⟩:=(pB_iff s).1 hb
      rw [pN_of hm];exact hm
    · cases h
  · intro h
    rw [if_pos ((pB_iff s).2 ⟨n,h⟩),pN_of h]
def nib (c : UInt8) : Option Nat:=if 48 ≤ c.toNat ∧ c.toNat ≤ 57 then some (c.toNat - 48) else if 97 ≤ c.toNat ∧ c.toNat ≤ 102 then some (c.toNat - 87) else none
theorem nib_inv {c : UInt8} {k : Nat} (h : nib c = some k) : ∃ hk : k < 16,digs[k]'(by show _ < 16;exact hk) = c:=by
  have hc : ∀ c : Fin 256,∀ k : Fin 16,nib (UInt8.ofNat c.val) = some k.val → digs[k.val]'(by show _ < 16;exact k.isLt) = UInt8.ofNat c.val:=by decide +kernel
  have hk : k < 16:=by
    unfold nib at h
    split at h
    · cases h;omega
    · split at h
      · cases h;omega
      · cases h
  have hcc : UInt8.ofNat c.toNat = c:=UInt8.ofNat_toNat
  have:=hc ⟨c.toNat,c.toNat_lt⟩ ⟨k,hk⟩ (by rw [hcc];exact h)
  exact ⟨hk,by rw [hcc] at this;exact this⟩
def pairO (a b : UInt8) : Option UInt8:=match nib a,nib b with
  | some x,some y=>some (UInt8.ofNat (x * 16 + y))
  | _,_=>none
theorem pairO_inv {a b c : UInt8} (h : pairO a b = some c) : hexL c = [a,b]:=by
  unfold pairO at h
  split at h
  · rename_i x y hx hy
    obtain ⟨kx,ex⟩:=nib_inv hx
    obtain ⟨ky,ey⟩:=nib_inv hy
    cases h
    have e : (UInt8.ofNat (x * 16 + y)).toNat = x * 16 + y:=by rw [UInt8.toNat_ofNat'];omega
    unfold hexL
    simp only [e]
    have e1 : (x * 16 + y) / 16 = x:=by omega
    have e2 : (x * 16 + y) % 16 = y:=by omega
    simp only [e1,e2,ex,ey]
  · cases h
def unhex : List UInt8 → Option (List UInt8)
  | []=>some []
  | [_]=>none
  | a :: b :: r=>match pairO a b with
    | some c=>(unhex r).map (c :: ·)
    | none=>none
theorem unhex_inv : ∀ (s l : List UInt8),unhex s = some l → l.flatMap hexL = s
  | [],l,h=>by
    simp only [unhex,Option.some.injEq] at h;subst h;rfl
  | [_],l,h=>by simp [unhex] at h
  | a :: b :: r,l,h=>by
    rw [unhex] at h
    split at h
    · rename_i c hc
      obtain ⟨t,ht,rfl⟩:=Option.map_eq_some_iff.1 h
      rw [List.flatMap_cons,pairO_inv hc,unhex_inv r t ht];rfl
    · cases h
noncomputable def unq : List UInt8 → Option (List UInt8)
  | []=>some []
  | c :: r=>if plainB c then (unq r).map (c :: ·) else if c = 92 then
      (match r with
      | a :: b :: r'=>match pairO a b with
        | some d=>if plainB d then none else (unq r').map (d :: ·)
        | none=>none
      | _=>none) else none
theorem unq_cons (c : UInt8) (r : List UInt8) : unq (c :: r) = if plainB c then (unq r).map (c :: ·) else if c = 92 then
      (match r with
      | a :: b :: r'=>match pairO a b with
        | some d=>if plainB d then none else (unq r').map (d :: ·)
        | none=>none
      | _=>none) else none:=by
  cases r with
  | nil=>simp [unq]
  | cons a r=>cases r <;> simp [unq]
theorem unq_inv : ∀ (n : Nat) (s l : List UInt8),s.length ≤ n → unq s = some l → l.flatMap escL = s
  | _,[],l,_,h=>by simp only [unq,Option.some.injEq] at h;subst h;rfl
  | 0,c :: r,l,hn,h=>by simp at hn
  | n + 1,c :: r,l,hn,h=>by
    rw [unq_cons] at h
    split at h
    · rename_i hp
      obtain ⟨t,ht,rfl⟩:=Option.map_eq_some_iff.1 h
      rw [List.flatMap_cons,unq_inv n r t (by simpa using hn) ht]
      unfold escL;rw [if_pos ((plainB_t c).1 hp)];rfl
    · split at h
      · rename_i h92
        subst h92
        split at h
        · rename_i a b r'
          split at h
          · rename_i d hd
            split at h
            · cases h
            · rename_i hp
              obtain ⟨t,ht,rfl⟩:=Option.map_eq_some_iff.1 h
              rw [List.flatMap_cons,unq_inv n r' t (by simp at hn;omega) ht]
              unfold escL;rw [if_neg (fun hq=>hp ((plainB_t d).2 hq)),pairO_inv hd];rfl
          · cases h
        · cases h
      · cases h
abbrev trueL : List UInt8:=[116,114,117,101]
abbrev falseL : List UInt8:=[102,97,108,115,101]
noncomputable def readL : List UInt8 → Option Val
  | []=>none
  | c :: r =>
    if c = 116 ∨ c = 102 then (if c :: r = trueL then some ⟨2,1,[]⟩ else if c :: r = falseL then some ⟨2,0,[]⟩ else none)
    else if c = 64 then (numO r).map fun n=>⟨5,n,[]⟩
    else if c = 33 then (numO r).map fun n=>⟨6,n,[]⟩
    else if c = 58 then some ⟨7,0,r⟩
    else if c = 35 then (unhex r).map fun l=>⟨4,0,l⟩
    else if c = 34 then (if r.getLast? = some 34 then (unq r.dropLast).map fun l=>⟨3,0,l⟩ else none)
    else (numO (c :: r)).map fun n=>⟨1,n,[]⟩
abbrev zV : Val:=⟨0,0,[]⟩
noncomputable def parseV (s : List UInt8) : Val:=match readL s with
  | some v=>if mayB v then v else zV
  | none=>zV
noncomputable def parseE (s : List UInt8) : Int:=match readL s with
  | some v=>if mayB v then 0 else 11
  | none=>11
theorem parse_ok {s : List UInt8} {v : Val} (h : readL s = some v) (hm : MayP v) : parseV s = v ∧ parseE s = 0:=by
  unfold parseV parseE;rw [h];simp only [if_pos ((mayB_t v).mpr hm),and_self]
theorem parse_no {s : List UInt8} (h : ∀ v,readL s = some v → ¬ MayP v) : parseV s = zV ∧ parseE s = 11:=by
  unfold parseV parseE
  cases hr : readL s with
  | none=>exact ⟨rfl,rfl⟩
  | some v=>simp only [if_neg (fun e=>h v hr ((mayB_t v).mp e)),and_self]
theorem parse_cases (s : List UInt8) : (∃ v,readL s = some v ∧ MayP v) ∨ ∀ v,readL s = some v → ¬ MayP v:=by
  by_cases h : ∃ v,readL s = some v ∧ MayP v
  · exact .inl h
  · exact .inr fun v h1 h2=>h ⟨v,h1,h2⟩
end Go.Proofs

namespace Go.Proofs
open Go.AL
attribute [local irreducible] Go.AL.W Go.AL.WL Go.AL.WD Go.AL.POp Go.AL.PPOp Go.AL.POpS Go.AL.PC Go.AL.AC Go.AL.YW Go.AL.Ret Go.AL.Le Go.AL.thn Go.AL.inBlk Go.AL.scp
set_option maxHeartbeats 4000000 in
theorem ixB0_pc [GlobF Tryd.prog] (s : List UInt8) (c : UInt8) : PC Tryd.prog 90 [str s,.sc (.int .u8 c.toNat)] (.sc (.int .i64 (Lib.indexByte s c))):=by
  refine PC.of_body Tryd.func90 Tryd.ntmps90 rfl rfl rfl ?_
  repeat' first
 | (apply p1 (hd:=rfl);case hop=>first|(apply D_move;rfl)|(apply D_assign;rfl)|exact D_xidx rfl rfl rfl)
 | refine W_seq ?_
 | refine W_region ?_
 | refine WL_nil ?_
 | refine tn ?_
 | refine W_ret ?_
 | (refine idR ?_;refine ret1 rfl rfl rfl ?_)
 | (refine Le.int ?_)
  all_goals (have e : ((c.toNat : Int)).toNat.toUInt8 = c:=by simp);(rw [e])
set_option maxHeartbeats 4000000 in
theorem ixB_pc [GlobF Tryd.prog] (s : List UInt8) (c : UInt8) : PC Tryd.prog 45 [str s,.sc (.int .u8 c.toNat)] (.sc (.int .i64 (Lib.indexByte s c))):=by
  refine PC.of_body Tryd.func45 Tryd.ntmps45 rfl rfl rfl ?_
  repeat' first
 | (apply p1 (hd:=rfl);case hop=>first|(apply D_move;rfl)|(apply D_assign;rfl)|(apply D_pc (ixB0_pc s c);rfl;exact .same rfl (.same rfl .nil)))
 | refine W_seq ?_
 | refine W_region ?_
 | refine WL_nil ?_
 | refine tn ?_
 | refine W_ret ?_
 | (refine idR ?_;refine ret1 rfl rfl rfl ?_)
 | (refine Le.int ?_)
  all_goals rfl
def nibI (c : UInt8) : Int:=match nib c with
  | some k=>k
  | none=>-1
theorem ix_nib (c : UInt8) : Lib.indexByte digs c = nibI c:=by
  have : ∀ q : Fin 256,Lib.indexByte digs (UInt8.ofNat q.val) = nibI (UInt8.ofNat q.val):=by decide +kernel
  have h:=this ⟨c.toNat,c.toNat_lt⟩
  rwa [UInt8.ofNat_toNat] at h
theorem ixD_pc [GlobF Tryd.prog] (c : UInt8) : PC Tryd.prog 45 [str digs,.sc (.int .u8 c.toNat)] (.sc (.int .i64 (nibI c))):=by
  have:=ixB_pc digs c
  rwa [ix_nib] at this
theorem nib_lt {c : UInt8} {k : Nat} (h : nib c = some k) : k < 16:=(nib_inv h).1
theorem nibI_some {c : UInt8} {k : Nat} (h : nib c = some k) : nibI c = k:=by unfold nibI;rw [h]
theorem nibI_none {c : UInt8} (h : nib c = none) : nibI c = -1:=by unfold nibI;rw [h]
theorem u8_wrap (z : Int) : ∃ c : UInt8,IntKind.u8.wrap z = (c.toNat : Int):=by
  have h : 0 ≤ IntKind.u8.wrap z ∧ IntKind.u8.wrap z < 256:=by
    simp [IntKind.wrap,IntKind.signed,IntKind.bits];omega
  refine ⟨UInt8.ofNat (IntKind.u8.wrap z).toNat,?_⟩
  rw [UInt8.toNat_ofNat'];omega
theorem or_nib : ∀ x y : Fin 16,IntKind.u8.wrap (bits .or .i64 (IntKind.i64.wrap (((x.val : Nat) : Int) * 2 ^ 4)) ((y.val : Nat) : Int)) = ((UInt8.ofNat (x.val * 16 + y.val)).toNat : Int):=by decide +kernel
theorem pairO_n1 {a b : UInt8} (h : nib a = none) : pairO a b = none:=by unfold pairO;rw [h]
def pairS : List UInt8 → Option UInt8
  | a :: b :: _=>pairO a b
  | _=>none
theorem pairS_short {s : List UInt8} (h : s.length < 2) : pairS s = none:=by
  match s,h with
  | [],_=>rfl
  | [_],_=>rfl
  | _ :: _ :: _,h=>simp at h;omega
theorem pairS_two {s : List UInt8} (h : 2 ≤ s.length) : pairS s = pairO (s[0]'(by omega)) (s[1]'(by omega)):=by
  match s,h with
  | _ :: _ :: _,_=>rfl
set_option maxHeartbeats 4000000 in
theorem pair_pc [GlobF Tryd.prog] (s : List UInt8) (hs : s.length < 281474976710656) : ∃ c : UInt8,PC Tryd.prog 136 [str s] (.tu [.sc (.int .u8 c.toNat),.sc (.bool (pairS s).isSome)]) ∧ ∀ d,pairS s = some d → c = d:=by
  by_cases h2 : s.length < 2
  · refine ⟨0,?_,fun d hd=>by rw [pairS_short h2] at hd;cases hd⟩
    rw [pairS_short h2]
    refine PC.of_body Tryd.func136 Tryd.ntmps136 rfl rfl rfl ?_
    repeat' first
 | (apply p1 (hd:=rfl);case hop=>first|(apply D_move;rfl)|(apply D_assign;rfl)|(apply D_int;rfl;rfl;rfl)|(apply D_len_str;rfl))
 | refine W_seq ?_
 | refine W_region ?_
 | (refine idC ?_;refine cs rfl (fun _=>?_) (fun _=>?_))
 | refine WL_nil ?_
 | refine tn ?_
 | refine tr ?_
 | refine W_skip ?_
 | refine W_ret ?_
 | (refine idR ?_;refine ret2 rfl rfl rfl rfl ?_ ?_)
 | refine Le.bool ?_
 | refine Le.int ?_
 | (refine idW ?_;refine W_draw0 rfl ?_)
 | (apply d1 (hd:=rfl);case hop=>first|(apply D_move;rfl)|(apply D_idxSn;rfl;rfl;(first|omega|(simp;done))))
 | (fail)
    all_goals first|rfl|(exfalso;omega)
  · have h0' : 0 < s.length:=by omega
    have h1' : 1 < s.length:=by omega
    have h0 : 0 < s.length:=by omega
    have h1 : 1 < s.length:=by omega
    obtain ⟨c,hc⟩:=u8_wrap (bits .or .i64 (IntKind.i64.wrap (nibI (s[0]'h0) * 2 ^ 4)) (nibI (s[1]'h1)))
    have hp : PC Tryd.prog 136 [str s] (.tu [.sc (.int .u8 c.toNat),.sc (.bool (iLe 0 (nibI (s[0]'h0)) && iLe 0 (nibI (s[1]'h1))))]):=by
      refine PC.of_body Tryd.func136 Tryd.ntmps136 rfl rfl rfl ?_
      repeat' first
 | (apply p1 (hd:=rfl);case hop=>first|(apply D_move;rfl)|(apply D_assign;rfl)|exact D_or rfl rfl|(apply D_pickT;rfl;rfl)|(apply D_pickF;rfl;rfl)|(apply D_int;rfl;rfl;rfl)|(apply D_len_str;rfl)|(apply D_conv_int;rfl)|(apply D_shl;rfl;rfl;first|omega|((repeat rw [w64 _ (by omega) (by omega)]);omega)|decide))
 | refine W_seq ?_
 | refine W_region ?_
 | (refine idC ?_;refine cs rfl (fun _=>?_) (fun _=>?_))
 | refine WL_nil ?_
 | (refine idG ?_;first|refine g0t rfl rfl rfl ?_|refine gr rfl rfl ?_|refine gs rfl rfl (fun _=>?_) (fun _=>?_))
 | refine tn ?_
 | refine tr ?_
 | refine W_skip ?_
 | refine W_ret ?_
 | (refine idR ?_;refine ret2 rfl rfl rfl rfl ?_ ?_)
 | refine Le.bool ?_
 | refine Le.int ?_
 | (refine idW ?_;refine W_draw0 rfl ?_)
 | (apply d1 (hd:=rfl);case hop=>first|(apply D_move;rfl)|(apply D_assign;rfl)|(apply D_pc (ixD_pc _);rfl;exact .same rfl (.same rfl .nil))|(apply D_idxSn;rfl;rfl;(first|omega|(simp;done))))
 | (refine WD_nil (by first|decide +kernel|kernel_rfl|rfl) ?_)
      all_goals first
        | (exfalso;omega)
        | exact hc
        | (rename_i hh;rw [(iLe_t _ _).mpr hh];rfl)
        | (rename_i hh;rw [(iLe_f _ _).mpr hh];rfl)
    have hps:=pairS_two (s:=s) (by omega)
    refine ⟨c,?_,?_⟩
    · have e : (iLe 0 (nibI (s[0]'h0)) && iLe 0 (nibI (s[1]'h1))) = (pairS s).isSome:=by
        rw [hps]
        rcases hx : nib (s[0]'h0) with _|x
        · rw [nibI_none hx,pairO_n1 hx];simp [iLe]
        · unfold pairO
          rw [hx]
          rcases hy : nib (s[1]'h1) with _|y
          · rw [nibI_none hy];simp [iLe]
          · rw [nibI_some hx,nibI_some hy];simp [iLe]
      rw [← e];exact hp
    · intro d hd
      rw [hps] at hd
      rcases hx : nib (s[0]'h0) with _|x
      · rw [pairO_n1 hx] at hd;cases hd
      · unfold pairO at hd
        rcases hy : nib (s[1]'h1) with _|y
        · rw [hx,hy] at hd;cases hd
        · rw [hx,hy] at hd
          cases hd
          rw [nibI_some hx,nibI_some hy,or_nib ⟨x,nib_lt hx⟩ ⟨y,nib_lt hy⟩] at hc
          exact (UInt8.toNat_inj.1 (Int.ofNat_inj.1 hc)).symm
end Go.Proofs

namespace Go.Proofs
open Go.AL
attribute [local irreducible] Go.AL.W Go.AL.WL Go.AL.WD Go.AL.POp Go.AL.PPOp Go.AL.POpS Go.AL.PC Go.AL.AC Go.AL.YW Go.AL.Ret Go.AL.Le Go.AL.thn Go.AL.inBlk Go.AL.scp
theorem pairS_len {s : List UInt8} (h : pairS s ≠ none) : 2 ≤ s.length:=by
  match s,h with
  | [],h=>exact absurd rfl h
  | [_],h=>exact absurd rfl h
  | _ :: _ :: _,_=>simp
set_option maxHeartbeats 8000000 in
theorem pairs1_ac [GlobF Tryd.prog] (r l : Nat) (I : List UInt8 → List AObj → Prop) (Stop : List AObj → Prop) {s0 : List UInt8} {h0 : List AObj} (hl : s0.length < 281474976710656) (hI : I s0 h0)
    (hbox : ∀ s h,I s h → h[r]? = some (.cells [str s] none))
    (hy : ∀ s h c,I s h → s ≠ [] → (∀ d,pairS s = some d → c = d) → YW Tryd.prog l [.sc (.int .u8 c.toNat),.sc (.bool (pairS s).isSome)] h (fun b h'=>(b = true ∧ pairS s ≠ none ∧ h'[r]? = some (.cells [str s] none) ∧ I (s.drop 2) (h'.set r (.cells [str (s.drop 2)] none))) ∨ ((b = false ∨ pairS s = none) ∧ Stop h'))) :
    AC Tryd.prog 135 [.sc (.func (.yield l) #[] #[]),.bp r 0] h0 (fun _ h'=>I [] h' ∨ Stop h'):=by
  refine AC.of_body Tryd.func135 Tryd.ntmps135 rfl rfl rfl ?_
  repeat' first
 | (refine W_block ?_)
  refine W_loopL (X:=List UInt8 × List AObj) (fun x=>[(0,.sc (.func (.yield l) #[] #[])),(1,.bp r 0)]) (fun x=>x.2)
    (fun x=>x.1.length < 281474976710656 ∧ I x.1 x.2) (fun x=>x.1.length) (s0,h0) ⟨hl,hI⟩ ⟨rfl,rfl,trivial⟩ rfl ?_
  rintro ⟨s,h⟩ ⟨hs,hIs⟩
  simp only at hs hIs ⊢
  have hb:=hbox s h hIs
  obtain ⟨c,hpc,hcd⟩:=pair_pc s hs
  have hyi:=fun hne=>hy s h c hIs hne hcd
  repeat' first
 | (refine p1L (D_loadB1 rfl hb rfl) rfl ?_)
 | (refine p1L (D_loadB1 rfl hb2 rfl) rfl ?_)
 | (refine pS (S_store rfl rfl rfl hb2 rfl rfl rfl) ?_)
 | (apply p1 (hd:=rfl);case hop=>first|(apply D_move;rfl)|(apply D_assign;rfl)|(apply D_slSl;rfl;rfl;all_goals (have h2:=pairS_len hne;omega))|(apply D_pc hpc;rfl;exact .same rfl .nil)|(apply D_pickT;rfl;rfl)|(apply D_pickF;rfl;rfl)|(apply D_str;rfl;rfl;rfl)|(apply D_ext;rfl;rfl)|(apply D_not;rfl))
 | refine W_seq ?_
 | refine W_region ?_
 | (refine idC ?_;first|refine c1 rfl ?_|refine cs rfl (fun _=>?_) (fun _=>?_))
 | refine WL_nil ?_
 | (refine idG ?_;first|refine g0f rfl rfl rfl ?_|refine gr rfl rfl ?_|refine gs rfl rfl (fun _=>?_) (fun _=>?_))
 | refine tn ?_
 | refine tr ?_
 | refine br ?_
 | refine bn ?_
 | refine te ?_
 | (refine idB ?_;refine bh rfl ?_)
 | refine W_skip ?_
 | refine W_block ?_
 | refine W_exit ?_
 | refine W_ret ?_
 | (refine m_yield rfl rfl rfl (hyi (by assumption)) ?_;rintro b h' (⟨rfl,hne,hb2,hnx⟩ | ⟨rfl|hno,hst⟩))
  all_goals first
    | contradiction
    | (exfalso;rename_i hh;apply hne;cases hc : pairS s <;> simp_all;done)
    | (exfalso;rename_i hh;rw [hno] at hh;cases hh;done)
    | exact ret0 (.inl rfl) rfl rfl (.inr hst)
    | exact ret0 (.inr rfl) rfl rfl (.inl hIs)
    | skip
  · have h2:=pairS_len hne
    exact ⟨rfl,(s.drop 2,_),⟨by show (s.drop 2).length < _;rw [List.length_drop];omega,hnx⟩,by show (s.drop 2).length < _;rw [List.length_drop];omega,⟨rfl,rfl,trivial⟩,rfl⟩
  · rename_i hs0
    subst hs0
    exact ret0 (.inr rfl) rfl rfl (.inl hIs)
theorem pairs_ac [GlobF Tryd.prog] {h : List AObj} (s : List UInt8) : AC Tryd.prog 114 [str s] h (fun v h'=>v = .fn (.func 135) [] [.bp h.length 0] ∧ h' = h ++ [.cells [str s] none]):=by
  refine AC.of_body Tryd.func114 Tryd.ntmps114 rfl rfl rfl ?_
  repeat' first
 | (refine m_box rfl rfl rfl ?_)
 | (apply p1 (hd:=rfl);case hop=>first|(apply D_assign;rfl)|exact D_mkfn rfl)
 | refine W_seq ?_
 | refine W_region ?_
 | refine WL_nil ?_
 | refine tn ?_
 | (refine W_ret ?_)
  all_goals exact retK1 (.inl rfl) rfl rfl (ResO.tmp rfl) ⟨rfl,rfl⟩
theorem pairs1_acX [GlobF Tryd.prog] (r l : Nat) (Hs : List UInt8 → List UInt8 → List AObj) (Stop : List AObj → Prop) {s0 : List UInt8} {h0 : List AObj} (hl : s0.length < 281474976710656) (hH : Hs [] s0 = h0)
    (hr : ∀ acc s,(Hs acc s)[r]? = some (.cells [str s] none)) (hs : ∀ acc s s',(Hs acc s).set r (.cells [str s'] none) = Hs acc s')
    (hy : ∀ acc s c,acc.length + s.length ≤ s0.length → s ≠ [] → pairS s = some c → YW Tryd.prog l [.sc (.int .u8 c.toNat),.sc (.bool true)] (Hs acc s) (fun b h'=>b = true ∧ h' = Hs (acc ++ [c]) s))
    (hn : ∀ acc s c,acc.length + s.length ≤ s0.length → s ≠ [] → pairS s = none → unhex s0 = none → YW Tryd.prog l [.sc (.int .u8 (c : UInt8).toNat),.sc (.bool false)] (Hs acc s) (fun b h'=>Stop h')) :
    AC Tryd.prog 135 [.sc (.func (.yield l) #[] #[]),.bp r 0] h0 (fun _ h'=>(∃ out,unhex s0 = some out ∧ h' = Hs out []) ∨ (unhex s0 = none ∧ Stop h')):=by
  have hun : ∀ {s c},pairS s = some c → unhex s = (unhex (s.drop 2)).map (c :: ·):=fun {s c} h=>by
    match s,h with
    | a :: b :: t,h=>rw [unhex,show pairO a b = some c from h];rfl
  have hun0 : ∀ {s},s ≠ [] → pairS s = none → unhex s = none:=fun {s} h0 h=>by
    match s,h0,h with
    | [_],_,_=>rfl
    | a :: b :: t,_,h=>rw [unhex,show pairO a b = none from h]
  refine AC.mono (pairs1_ac r l (fun s h=>∃ acc,acc.length + s.length ≤ s0.length ∧ h = Hs acc s ∧ unhex s0 = (unhex s).map (acc ++ ·)) (fun h=>unhex s0 = none ∧ Stop h) hl ⟨[],by simp,hH.symm,by simp⟩ ?_ ?_) ?_
  · rintro s h ⟨acc,_,rfl,_⟩
    exact hr acc s
  · rintro s h c ⟨acc,hlen,rfl,hu⟩ hne hc
    rcases hp : pairS s with _|d
    · have h0 : unhex s0 = none:=by rw [hu,hun0 hne hp];rfl
      refine (hn acc s c hlen hne hp h0).mono ?_
      intro b h' hst
      exact .inr ⟨.inr rfl,h0,hst⟩
    · obtain rfl:=hc d hp
      refine (hy acc s c hlen hne hp).mono ?_
      rintro b h' ⟨rfl,rfl⟩
      have h2:=pairS_len (s:=s) (by rw [hp];simp)
      refine .inl ⟨rfl,by simp,hr _ _,acc ++ [c],?_,hs _ _ _,?_⟩
      · rw [List.length_append,List.length_drop];simp only [List.length_cons,List.length_nil];omega
      · rw [hu,hun hp];cases unhex (s.drop 2) <;> simp
  · rintro _ h' (⟨acc,_,rfl,hu⟩|h1)
    · exact .inl ⟨acc,by rw [hu];simp [unhex],rfl⟩
    · exact .inr h1
theorem pairs1_acE [GlobF Tryd.prog] (r l : Nat) (Hs : List UInt8 → List UInt8 → List AObj) {Stop : List AObj → Prop} {s0 : List UInt8} {h0 : List AObj} (hl : s0.length < 281474976710656) (hH : Hs [] s0 = h0)
    (hr : ∀ acc s,(Hs acc s)[r]? = some (.cells [str s] none)) (hs : ∀ acc s s',(Hs acc s).set r (.cells [str s'] none) = Hs acc s')
    (hy : ∀ acc s c,acc.length + s.length ≤ s0.length → s ≠ [] → pairS s = some c → YW Tryd.prog l [.sc (.int .u8 c.toNat),.sc (.bool true)] (Hs acc s) (fun b h'=>b = true ∧ h' = Hs (acc ++ [c]) s))
    (hn : ∀ acc s c,acc.length + s.length ≤ s0.length → s ≠ [] → pairS s = none → unhex s0 = none → YW Tryd.prog l [.sc (.int .u8 (c : UInt8).toNat),.sc (.bool false)] (Hs acc s) (fun _ h'=>Stop h'))
    (hend : ∀ out,unhex s0 = some out → Stop (Hs out [])) :
    AC Tryd.prog 135 [.sc (.func (.yield l) #[] #[]),.bp r 0] h0 (fun _ h'=>Stop h') :=
  AC.mono (pairs1_acX r l Hs Stop hl hH hr hs hy hn) fun _ h' h=>by
    rcases h with ⟨out,h1,rfl⟩ | ⟨_,h1⟩
    · exact hend out h1
    · exact h1
end Go.Proofs

namespace Go.Proofs
open Go.AL
attribute [local irreducible] Go.AL.W Go.AL.WL Go.AL.WD Go.AL.POp Go.AL.PPOp Go.AL.POpS Go.AL.PC Go.AL.AC Go.AL.YW Go.AL.Ret Go.AL.Le Go.AL.thn Go.AL.inBlk Go.AL.scp
noncomputable def unqV (s : List UInt8) : List UInt8:=(unq s).getD []
theorem unq_step1 {s : List UInt8} {i : Nat} (h : i < s.length) (hp : plainB s[i] = true) : unq (s.drop i) = (unq (s.drop (i + 1))).map (s[i] :: ·):=by
  rw [List.drop_eq_getElem_cons h,unq_cons,if_pos hp]
theorem unq_step2 {s : List UInt8} {i : Nat} (h : i < s.length) (hp : plainB s[i] = false) {c : UInt8} (h92 : s[i] = 92) (hc : pairS (s.drop (i + 1)) = some c) (hq : plainB c = false) : unq (s.drop i) = (unq (s.drop (i + 3))).map (c :: ·):=by
  rw [List.drop_eq_getElem_cons h,unq_cons,if_neg (by rw [hp];decide),if_pos h92]
  have e : s.drop (i + 3) = (s.drop (i + 1)).drop 2:=by rw [List.drop_drop]
  rw [e]
  match s.drop (i + 1),hc with
  | a :: b :: t,hc =>
    have hc' : pairO a b = some c:=hc
    simp only [hc',List.drop_succ_cons,List.drop_zero]
    rw [if_neg (by rw [hq];decide)]
theorem unq_stepN {s : List UInt8} {i : Nat} (h : i < s.length) (hp : plainB s[i] = false) (hn : s[i] ≠ 92 ∨ pairS (s.drop (i + 1)) = none ∨ ∃ c,pairS (s.drop (i + 1)) = some c ∧ plainB c = true) : unq (s.drop i) = none:=by
  rw [List.drop_eq_getElem_cons h,unq_cons,if_neg (by rw [hp];decide)]
  by_cases h92 : s[i] = 92
  · rw [if_pos h92]
    rcases hn with hn|hn | ⟨c,hc,hq⟩
    · exact absurd h92 hn
    · match s.drop (i + 1),hn with
      | [],_=>rfl
      | [_],_=>rfl
      | a :: b :: t,hn =>
        have hn' : pairO a b = none:=hn
        simp only [hn']
    · match s.drop (i + 1),hc with
      | a :: b :: t,hc =>
        have hc' : pairO a b = some c:=hc
        simp only [hc']
        rw [if_pos hq]
  · rw [if_neg h92]
theorem isSome_f {α : Type} {o : Option α} (h : o.isSome = false) : o = none:=by cases o <;> simp_all
theorem isSome_t {α : Type} {o : Option α} (h : o.isSome = true) : ∃ a,o = some a:=by cases o <;> simp_all
theorem unq_noV {s acc : List UInt8} {i : Nat} (hu : unq s = (unq (s.drop i)).map (acc ++ ·)) (h : unq (s.drop i) = none) : [] = unqV s:=by unfold unqV;rw [hu,h];rfl
theorem unq_noE {s acc : List UInt8} {i : Nat} (hu : unq s = (unq (s.drop i)).map (acc ++ ·)) (h : unq (s.drop i) = none) : false = (unq s).isSome:=by rw [hu,h];rfl
set_option maxHeartbeats 16000000 in
theorem quoted_pc [GlobF Tryd.prog] (s : List UInt8) (hs : s.length < 268435456) : PC Tryd.prog 116 [str s] (.tu [str (unqV s),.sc (.bool (unq s).isSome)]):=by
  refine PC.of_body Tryd.func116 Tryd.ntmps116 rfl rfl rfl ?_
  repeat' first
 | (refine m_allocT rfl ?_;refine WL_adoptC 0 1 1 5 rfl rfl ?_)
 | (apply p1 (hd:=rfl);case hop=>first|(apply D_assign;rfl))
 | refine W_seq ?_
 | refine W_region ?_
 | refine WL_nil ?_
 | refine tn ?_
 | refine W_block ?_
 | refine W_label ?_
 | (refine W_scope ?_)
  refine W_loopL (X:=Nat × List UInt8 × AV) (fun x=>[(0,str s),(4,.bp 0 0),(5,.sc (.int .i64 (x.1 : Int)))]) (fun x=>bH x.2.2 x.2.1)
    (fun x=>x.1 ≤ s.length ∧ x.2.1.length ≤ x.1 ∧ unq s = (unq (s.drop x.1)).map (x.2.1 ++ ·) ∧ ownP 0 x.2.2) (fun x=>s.length - x.1) (0,[],.sc (.pointer none)) ⟨Nat.zero_le _,Nat.le_refl _,by simp,.inl rfl⟩ ⟨rfl,rfl,rfl,trivial⟩ rfl ?_
  rintro ⟨i,acc,p⟩ ⟨hi,ha,hu,hp⟩
  simp only at hi ha hu hp ⊢
  have hlen : acc.length < 1099511627776:=by omega
  by_cases hi' : i < s.length
  · obtain ⟨c,hpc,hcd⟩:=pair_pc (s.drop (i + 1)) (by rw [List.length_drop];omega)
    have hdw : (IntKind.i64.wrap ((i : Int) + 1)).toNat = i + 1:=by rw [w64 _ (by omega) (by omega)];omega
    have hpc' : PC Tryd.prog 136 [str (s.drop (IntKind.i64.wrap ((i : Int) + 1)).toNat)] (.tu [.sc (.int .u8 c.toNat),.sc (.bool (pairS (s.drop (i + 1))).isSome)]):=by rw [hdw];exact hpc
    repeat' first
 | (apply p1 (hd:=rfl);case hop=>first|(apply D_move;rfl)|(apply D_assign;rfl)|(apply D_pc (plain_pc _);rfl;exact .same rfl .nil)|(apply D_pc hpc';rfl;exact .same rfl .nil)|(apply D_pickT;rfl;rfl)|(apply D_pickF;rfl;rfl)|(apply D_int;rfl;rfl;rfl)|(apply D_len_str;rfl)|(apply D_ext;rfl;rfl)|(apply D_not;rfl)|(apply D_idxSn;rfl;rfl;(first|omega|(simp;done)))|(apply D_slSl;rfl;rfl;all_goals first|omega|((repeat rw [w64 _ (by omega) (by omega)]);omega)|decide))
 | refine W_seq ?_
 | refine W_region ?_
 | (refine idC ?_;first|refine c1 rfl ?_|refine cs rfl (fun _=>?_) (fun _=>?_))
 | refine WL_nil ?_
 | (refine idG ?_;first|refine g0f rfl rfl rfl ?_|refine gr rfl rfl ?_|refine gs rfl rfl (fun _=>?_) (fun _=>?_))
 | refine tn ?_
 | refine tr ?_
 | refine br ?_
 | refine bn ?_
 | refine te ?_
 | (refine idB ?_;refine bh rfl ?_)
 | refine W_skip ?_
 | refine W_block ?_
 | refine W_exit ?_
 | refine W_ret ?_
 | refine sr ?_
 | (refine idR ?_;refine ret2 rfl rfl rfl rfl ?_ ?_)
 | refine Le.bool ?_
 | refine Le.str ?_
 | (refine m_call (d:=19) (wbyte_ac (n:=2) rfl (bH_B hp hlen) _) rfl rfl rfl ?_;rintro _ _ ⟨rfl,rfl⟩;rw [bH_next])
 | (refine m_call (d:=43) (wbyte_ac (n:=2) rfl (bH_B hp hlen) _) rfl rfl rfl ?_;rintro _ _ ⟨rfl,rfl⟩;rw [bH_next])
    all_goals first
      | (exfalso;omega)
      | skip
    · rename_i _ hpl
      exact ⟨rfl,(i + 1,acc ++ [s[i]],.bp 0 0),⟨by omega,by rw [List.length_append];simp only [List.length_cons,List.length_nil];omega,by rw [hu,unq_step1 hi' hpl];cases unq (s.drop (i + 1)) <;> simp,.inr rfl⟩,by simp only;omega,⟨rfl,rfl,ieq (wsucc i (by omega)),trivial⟩,rfl⟩
    · rename_i _ hpl h92
      exact unq_noV hu (unq_stepN hi' hpl (.inl (by intro e;rw [e] at h92;exact h92 rfl)))
    · rename_i _ hpl h92
      exact unq_noE hu (unq_stepN hi' hpl (.inl (by intro e;rw [e] at h92;exact h92 rfl)))
    · rename_i _ hpl h92 hn
      exact unq_noV hu (unq_stepN hi' hpl (.inr (.inl (isSome_f hn))))
    · rename_i _ hpl h92 hn
      exact unq_noE hu (unq_stepN hi' hpl (.inr (.inl (isSome_f hn))))
    · rename_i _ hpl h92 hn hq
      obtain ⟨d,hd⟩:=isSome_t hn
      obtain rfl:=hcd d hd
      exact unq_noV hu (unq_stepN hi' hpl (.inr (.inr ⟨_,hd,hq⟩)))
    · rename_i _ hpl h92 hn hq
      obtain ⟨d,hd⟩:=isSome_t hn
      obtain rfl:=hcd d hd
      exact unq_noE hu (unq_stepN hi' hpl (.inr (.inr ⟨_,hd,hq⟩)))
    · rename_i _ hpl h92 hn hq
      obtain ⟨d,hd⟩:=isSome_t hn
      obtain rfl:=hcd d hd
      have h2:=pairS_len (s:=s.drop (i + 1)) (by rw [hd];simp)
      rw [List.length_drop] at h2
      have e92 : s[i] = 92:=UInt8.toNat_inj.1 (by show s[i].toNat = 92;omega)
      exact ⟨rfl,(i + 3,acc ++ [c],.bp 0 0),⟨by omega,by rw [List.length_append];simp only [List.length_cons,List.length_nil];omega,by rw [hu,unq_step2 hi' hpl e92 hd hq];cases unq (s.drop (i + 3)) <;> simp,.inr rfl⟩,by simp only;omega,⟨rfl,rfl,ieq (by rw [w64 _ (by omega) (by omega)];omega),trivial⟩,rfl⟩
  · repeat' first
 | (apply p1 (hd:=rfl);case hop=>first|(apply D_move;rfl)|(apply D_assign;rfl)|(apply D_int;rfl;rfl;rfl)|(apply D_len_str;rfl)|(apply D_idxSn;rfl;rfl;(first|omega|(simp;done))))
 | refine W_seq ?_
 | refine W_region ?_
 | (refine idC ?_;refine cs rfl (fun _=>?_) (fun _=>?_))
 | refine WL_nil ?_
 | refine tn ?_
 | refine te ?_
 | (refine idB ?_;refine bh rfl ?_)
 | refine W_skip ?_
 | refine W_block ?_
 | refine W_exit ?_
 | refine W_ret ?_
 | refine sr ?_
 | (refine idR ?_;refine ret2 rfl rfl rfl rfl ?_ ?_)
 | refine Le.bool ?_
 | refine Le.str ?_
 | (refine m_call (d:=46) (bstr_ac (bH_B hp hlen)) rfl rfl rfl ?_;rintro _ _ ⟨rfl,rfl⟩)
    all_goals first
      | (exfalso;omega)
      | skip
    all_goals (rw [List.drop_eq_nil_of_le (by omega)] at hu;simp [unq] at hu)
    · unfold unqV;rw [hu];rfl
    · rw [hu];rfl
end Go.Proofs

namespace Go.Proofs
open Go.AL
attribute [local irreducible] Go.AL.W Go.AL.WL Go.AL.WD Go.AL.POp Go.AL.PPOp Go.AL.POpS Go.AL.PC Go.AL.AC Go.AL.YW Go.AL.Ret Go.AL.Le Go.AL.thn Go.AL.inBlk Go.AL.scp
theorem suf_t (s : List UInt8) (h : 1 ≤ s.length) : s.drop (s.length - 1) = [34] ↔ s.getLast? = some 34:=by
  have hne : s ≠ []:=by intro e;rw [e] at h;simp at h
  have e:=List.dropLast_concat_getLast hne
  have el : s.length - 1 = s.dropLast.length:=by rw [List.length_dropLast]
  have e2 : s.drop (s.length - 1) = [s.getLast hne]:=by
    rw [el]
    conv=>lhs;arg 2;rw [← e]
    rw [List.drop_left]
  rw [e2,List.getLast?_eq_some_getLast hne];simp
open Classical in
noncomputable def sufB (s : List UInt8) : Bool:=decide (s.getLast? = some 34)
theorem sufB_t {s : List UInt8} : sufB s = true ↔ s.getLast? = some 34:=by unfold sufB;simp
noncomputable def cutL (s : List UInt8) : List UInt8:=if sufB s then s.dropLast else s
theorem lw (s : List UInt8) (hs : s.length < 281474976710656) (h : 1 ≤ s.length) : IntKind.i64.wrap ((s.length : Int) - (([34] : List UInt8).length : Int)) = ((s.length - 1 : Nat) : Int):=by
  show IntKind.i64.wrap ((s.length : Int) - 1) = _
  rw [w64 _ (by omega) (by omega)];omega
set_option maxHeartbeats 4000000 in
theorem hsuf_pc [GlobF Tryd.prog] (s : List UInt8) (hs : s.length < 281474976710656) : PC Tryd.prog 148 [str s,str [34]] (.sc (.bool (sufB s))):=by
  refine PC.of_body Tryd.func148 Tryd.ntmps148 rfl rfl rfl ?_
  repeat' first
 | (apply p1 (hd:=rfl);case hop=>first|(apply D_move;rfl)|(apply D_assign;rfl)|(apply D_pickT;rfl;rfl)|(apply D_pickF;rfl;rfl)|(apply D_int;rfl;rfl;rfl)|(apply D_len_str;rfl)|(apply D_str;rfl;rfl;rfl)|(apply D_slSl;rfl;rfl;all_goals first|omega|((repeat rw [w64 _ (by omega) (by omega)]);omega)|decide))
 | refine W_seq ?_
 | refine W_region ?_
 | refine WL_nil ?_
 | (refine idG ?_;first|refine g0t rfl rfl rfl ?_|refine gr rfl rfl ?_|refine gs rfl rfl (fun _=>?_) (fun _=>?_))
 | refine tn ?_
 | refine W_ret ?_
 | (refine idR ?_;refine ret1 rfl rfl rfl ?_)
 | (refine Le.bool ?_)
  · rename_i h
    have h1 : 1 ≤ s.length:=by have h' : (1 : Int) ≤ (s.length : Int):=h;omega
    rw [lw s hs h1,Int.toNat_natCast,Bool.eq_iff_iff,sufB_t,sEq_t]
    exact suf_t s h1
  · rename_i h
    have h0 : s = []:=by
      have h' : (s.length : Int) < 1:=h
      exact List.length_eq_zero_iff.1 (by omega)
    subst h0
    cases hb : sufB [] with
    | false=>rfl
    | true=>rw [sufB_t] at hb;simp at hb
set_option maxHeartbeats 4000000 in
theorem cut0_pc [GlobF Tryd.prog] (s : List UInt8) (hs : s.length < 281474976710656) : PC Tryd.prog 137 [str s,str [34]] (.tu [str (cutL s),.sc (.bool (sufB s))]):=by
  refine PC.of_body Tryd.func137 Tryd.ntmps137 rfl rfl rfl ?_
  by_cases hb : sufB s = true
  · have h1 : 1 ≤ s.length:=by
      rw [sufB_t] at hb;cases s with
      | nil=>simp at hb
      | cons c r=>simp
    have hlw:=lw s hs h1
    repeat' first
 | (apply p1 (hd:=rfl);case hop=>first|(apply D_move;rfl)|(apply D_assign;rfl)|(apply D_pc (hsuf_pc s hs);rfl;exact .same rfl (.same rfl .nil))|(apply D_slSh;rfl;rfl;all_goals (rw [hlw];omega))|(apply D_int;rfl;rfl;rfl)|(apply D_len_str;rfl)|(apply D_not;rfl))
 | refine W_seq ?_
 | refine W_region ?_
 | (refine idC ?_;refine cs rfl (fun _=>?_) (fun _=>?_))
 | refine WL_nil ?_
 | refine tn ?_
 | refine tr ?_
 | refine W_skip ?_
 | refine W_ret ?_
 | (refine idR ?_;refine ret2 rfl rfl rfl rfl ?_ ?_)
 | refine Le.bool ?_
 | (refine Le.str ?_)
    · rename_i h;rw [hb] at h;cases h
    · rename_i h;rw [hb] at h;cases h
    · rw [hlw,Int.toNat_natCast];unfold cutL;rw [if_pos hb,List.dropLast_eq_take]
    · exact hb.symm
  · have hb' : sufB s = false:=by cases h : sufB s <;> simp_all
    repeat' first
 | (apply p1 (hd:=rfl);case hop=>first|(apply D_move;rfl)|(apply D_assign;rfl)|(apply D_pc (hsuf_pc s hs);rfl;exact .same rfl (.same rfl .nil))|(apply D_int;rfl;rfl;rfl)|(apply D_len_str;rfl)|(apply D_not;rfl))
 | refine W_seq ?_
 | refine W_region ?_
 | (refine idC ?_;refine cs rfl (fun _=>?_) (fun _=>?_))
 | refine WL_nil ?_
 | refine tn ?_
 | refine tr ?_
 | refine W_skip ?_
 | refine W_ret ?_
 | (refine idR ?_;refine ret2 rfl rfl rfl rfl ?_ ?_)
 | refine Le.bool ?_
 | (refine Le.str ?_)
    · unfold cutL;rw [if_neg hb]
    · exact hb'.symm
    all_goals (rename_i h;exact absurd h hb)
set_option maxHeartbeats 4000000 in
theorem cut_pc [GlobF Tryd.prog] (s : List UInt8) (hs : s.length < 281474976710656) : PC Tryd.prog 115 [str s,str [34]] (.tu [str (cutL s),.sc (.bool (sufB s))]):=by
  refine PC.of_body Tryd.func115 Tryd.ntmps115 rfl rfl rfl ?_
  repeat' first
 | (apply p1 (hd:=rfl);case hop=>first|(apply D_move;rfl)|(apply D_assign;rfl)|(apply D_pc (cut0_pc s hs);rfl;exact .same rfl (.same rfl .nil))|(apply D_ext;rfl;rfl))
 | refine W_seq ?_
 | refine W_region ?_
 | refine WL_nil ?_
 | refine tn ?_
 | refine W_ret ?_
 | (refine idR ?_;refine ret2 rfl rfl rfl rfl ?_ ?_)
 | refine Le.bool ?_
 | (refine Le.str ?_)
  all_goals rfl
end Go.Proofs

namespace Go.Proofs
open Go.AL
attribute [local irreducible] Go.AL.W Go.AL.WL Go.AL.WD Go.AL.POp Go.AL.PPOp Go.AL.POpS Go.AL.PC Go.AL.AC Go.AL.YW Go.AL.Ret Go.AL.Le Go.AL.thn Go.AL.inBlk Go.AL.scp
theorem D_eqv {P : Program} [GlobF P] {ρ : Operand → Option AV} {o : Oper} {v v' : AV} (h : PPOp P o ρ v) (e : v = v') : PPOp P o ρ v':=e ▸ h
end Go.Proofs

namespace Go.Proofs
open Go.AL
attribute [local irreducible] Go.AL.W Go.AL.WL Go.AL.WD Go.AL.POp Go.AL.PPOp Go.AL.POpS Go.AL.PC Go.AL.AC Go.AL.YW Go.AL.Ret Go.AL.Le Go.AL.thn Go.AL.inBlk Go.AL.scp
theorem w8 (m : Nat) (h : m < 256) : IntKind.u8.wrap (m : Int) = (m : Int):=by
  have : ∀ q : Fin 256,IntKind.u8.wrap ((q.val : Nat) : Int) = ((q.val : Nat) : Int):=by decide +kernel
  exact this ⟨m,h⟩
end Go.Proofs
