/- Contracts of the program's texts of values. -/
import Derived.Test.YtaphfieahcimcaaDoorQT3
import Derived.Test.YtaphfieahcimcaaDoorOps19
import Derived.Lib.ItoaLen
namespace Go.Proofs
open Go.AL
attribute [local irreducible] Go.AL.W Go.AL.WL Go.AL.WD Go.AL.POp Go.AL.PPOp Go.AL.POpS Go.AL.PC Go.AL.AC Go.AL.YW Go.AL.Ret Go.AL.Le Go.AL.thn Go.AL.inBlk Go.AL.scp

abbrev digs : List UInt8 := [48, 49, 50, 51, 52, 53, 54, 55, 56, 57, 97, 98, 99, 100, 101, 102]
theorem hx1 (c : UInt8) : c.toNat / 16 < digs.length := by have := c.toNat_lt; show _ < 16; omega
theorem hx2 (c : UInt8) : c.toNat % 16 < digs.length := by show _ < 16; omega
def hexL (c : UInt8) : List UInt8 := [digs[c.toNat / 16]'(hx1 c), digs[c.toNat % 16]'(hx2 c)]
def plainP (c : UInt8) : Prop := 32 ≤ c.toNat ∧ c.toNat ≤ 126 ∧ c.toNat ≠ 34 ∧ c.toNat ≠ 92
noncomputable def plainB (c : UInt8) : Bool := dP (plainP c)
theorem plainB_t (c : UInt8) : plainB c = true ↔ plainP c := by unfold plainB; rw [dP_t]
theorem plainB_f (c : UInt8) : plainB c = false ↔ ¬ plainP c := by unfold plainB; rw [dP_f]

set_option maxHeartbeats 4000000 in
theorem plain_pc [GlobF Tryd.prog] (c : UInt8) : PC Tryd.prog 63 [.sc (.int .u8 c.toNat)] (.sc (.bool (plainB c))) := by
  refine PC.of_body Tryd.func63 Tryd.ntmps63 rfl rfl rfl ?_
  repeat' first
    | (apply p1 (hd := rfl); case hop => first | (apply D_move; rfl) | (apply D_assign; rfl) | (apply D_pickT; rfl; rfl) | (apply D_pickF; rfl; rfl) | (apply D_int; rfl; rfl; rfl))
    | refine W_seq ?_
    | refine W_region ?_
    | refine WL_nil ?_
    | (refine idG ?_; first | refine g0t rfl rfl rfl ?_ | refine g0f rfl rfl rfl ?_ | refine g0u rfl rfl rfl ?_ | refine gr rfl rfl ?_ | refine gs rfl rfl (fun _ => ?_) (fun _ => ?_) | refine grn rfl rfl ?_)
    | refine tn ?_
    | refine tr ?_
    | refine br ?_
    | refine bn ?_
    | refine te ?_
    | (refine idB ?_; first | refine bh rfl ?_ | refine bm rfl ?_)
    | refine W_skip ?_
    | refine W_block ?_
    | refine W_exit ?_
    | refine W_ret ?_
    | refine W_label ?_
    | refine W_scope ?_
    | refine sn ?_
    | refine sr ?_
    | refine se ?_
    | (refine idR ?_; first | refine ret1 rfl rfl rfl ?_ | refine rL1 rfl (by first | exact trivial | exact ⟨rfl, trivial⟩) (by first | exact ResO.tmp rfl | exact ResO.cellBA rfl rfl rfl | exact ResO.cellB1 rfl rfl rfl | exact ResO.cellEA rfl rfl | exact ResO.cellE1 rfl) ?_)
    | refine Le.bool ?_
    | refine Le.int ?_
    | refine Le.str ?_
  all_goals (refine dP_eq ?_; simp only [plainP, iLe_t, bNot_t, iEq_t, iEq_f, Bool.false_eq_true, false_iff]; omega)
set_option maxHeartbeats 4000000 in
theorem hex_pc [GlobF Tryd.prog] (c : UInt8) : PC Tryd.prog 61 [.sc (.int .u8 c.toNat)] (str (hexL c)) := by
  refine PC.of_body Tryd.func61 Tryd.ntmps61 rfl rfl rfl ?_
  repeat' first
    | (apply p1 (hd := rfl); case hop => first | (apply D_move; rfl) | (apply D_assign; rfl) | exact D_sc (D_shr rfl rfl (by decide)) (congrArg _ (shr4' c)) | exact D_sc (D_and rfl rfl) (congrArg _ (and15' c)) | (apply D_idxSn (l := digs); rfl; rfl; first | exact hx1 c | exact hx2 c) | exact D_b2s (l := hexL c) rfl | (apply D_int; rfl; rfl; rfl) | (apply D_b2s; rfl) | (apply D_idxSn; rfl; rfl; (first | omega | (simp; done))) | (apply D_idxS; rfl; rfl; omega; (first | omega | (simp; done) | (simp; omega))) | (apply D_lit; rfl; rfl; rfl; rfl) | (apply D_shr; rfl; rfl; first | omega | ((repeat rw [w64 _ (by omega) (by omega)]); omega) | decide))
    | refine W_seq ?_
    | refine W_region ?_
    | refine WL_nil ?_
    | refine tn ?_
    | refine tr ?_
    | refine br ?_
    | refine bn ?_
    | refine te ?_
    | (refine idB ?_; first | refine bh rfl ?_ | refine bm rfl ?_)
    | refine W_skip ?_
    | refine W_block ?_
    | refine W_exit ?_
    | refine W_ret ?_
    | refine W_label ?_
    | refine W_scope ?_
    | refine sn ?_
    | refine sr ?_
    | refine se ?_
    | (refine idR ?_; first | refine ret1 rfl rfl rfl ?_ | refine rL1 rfl (by first | exact trivial | exact ⟨rfl, trivial⟩) (by first | exact ResO.tmp rfl | exact ResO.cellBA rfl rfl rfl | exact ResO.cellB1 rfl rfl rfl | exact ResO.cellEA rfl rfl | exact ResO.cellE1 rfl) ?_)
    | refine Le.bool ?_
    | refine Le.int ?_
    | refine Le.str ?_
    | (refine idW ?_; first | refine W_draw0 rfl ?_ | refine W_draw1 rfl ?_ | refine W_draw2 rfl ?_ | refine W_draw3 rfl ?_)
    | (apply d1 (hd := rfl); case hop => first | (apply D_move; rfl) | (apply D_assign; rfl) | exact D_sc (D_shr rfl rfl (by decide)) (congrArg _ (shr4' c)) | exact D_sc (D_and rfl rfl) (congrArg _ (and15' c)) | (apply D_idxSn (l := digs); rfl; rfl; first | exact hx1 c | exact hx2 c) | exact D_b2s (l := hexL c) rfl | (apply D_int; rfl; rfl; rfl) | (apply D_b2s; rfl) | (apply D_idxSn; rfl; rfl; (first | omega | (simp; done))) | (apply D_idxS; rfl; rfl; omega; (first | omega | (simp; done) | (simp; omega))) | (apply D_lit; rfl; rfl; rfl; rfl) | (apply D_shr; rfl; rfl; first | omega | ((repeat rw [w64 _ (by omega) (by omega)]); omega) | decide))
    | (refine idDn ?_; first | refine dL _ (fun hp' hs => D_loadB1 rfl (hs.trans rfl) rfl) rfl ?_ | refine dL _ (fun hp' hs => D_loadBA rfl (hs.trans rfl) rfl) rfl ?_ | refine dS (S_store rfl rfl rfl rfl rfl rfl rfl) rfl ?_ | refine dV (S_alloc 0 rfl) rfl rfl ?_ | refine dV (S_alloc 1 rfl) rfl rfl ?_ | refine dV (S_alloc 2 rfl) rfl rfl ?_ | refine dV (S_alloc 3 rfl) rfl rfl ?_ | refine dV (S_alloc 4 rfl) rfl rfl ?_ | refine dV (S_alloc 5 rfl) rfl rfl ?_ | refine dV (S_alloc 6 rfl) rfl rfl ?_ | refine dV (S_alloc 7 rfl) rfl rfl ?_)
    | refine WD_nil (by first | decide +kernel | kernel_rfl | rfl) ?_
  all_goals rfl
set_option maxHeartbeats 4000000 in
theorem fmtBool_pc [GlobF Tryd.prog] (b : Bool) : PC Tryd.prog 87 [.sc (.bool b)] (str (if b then [116, 114, 117, 101] else [102, 97, 108, 115, 101])) := by
  refine PC.of_body Tryd.func87 Tryd.ntmps87 rfl rfl rfl ?_
  repeat' first
    | (apply p1 (hd := rfl); case hop => first | (apply D_move; rfl) | (apply D_assign; rfl))
    | refine W_seq ?_
    | refine W_region ?_
    | (refine idC ?_; first | refine c1 rfl ?_ | refine c0 rfl ?_ | refine cs rfl (fun _ => ?_) (fun _ => ?_))
    | refine WL_nil ?_
    | refine tn ?_
    | refine tr ?_
    | refine br ?_
    | refine bn ?_
    | refine te ?_
    | (refine idB ?_; first | refine bh rfl ?_ | refine bm rfl ?_)
    | refine W_skip ?_
    | refine W_block ?_
    | refine W_exit ?_
    | refine W_ret ?_
    | refine W_label ?_
    | refine W_scope ?_
    | refine sn ?_
    | refine sr ?_
    | refine se ?_
    | (refine idR ?_; first | refine ret1 rfl rfl rfl ?_ | refine rL1 rfl (by first | exact trivial | exact ⟨rfl, trivial⟩) (by first | exact ResO.tmp rfl | exact ResO.cellBA rfl rfl rfl | exact ResO.cellB1 rfl rfl rfl | exact ResO.cellEA rfl rfl | exact ResO.cellE1 rfl) ?_)
    | refine Le.bool ?_
    | refine Le.int ?_
    | refine Le.str ?_
  all_goals subst_vars; rfl
set_option maxHeartbeats 4000000 in
theorem fmtB_pc [GlobF Tryd.prog] (b : Bool) : PC Tryd.prog 58 [.sc (.bool b)] (str (if b then [116, 114, 117, 101] else [102, 97, 108, 115, 101])) := by
  refine PC.of_body Tryd.func58 Tryd.ntmps58 rfl rfl rfl ?_
  repeat' first
    | (apply p1 (hd := rfl); case hop => first | (apply D_move; rfl) | (apply D_assign; rfl) | (apply D_pc (fmtBool_pc b); rfl; exact .same rfl .nil))
    | refine W_seq ?_
    | refine W_region ?_
    | refine WL_nil ?_
    | refine tn ?_
    | refine tr ?_
    | refine br ?_
    | refine bn ?_
    | refine te ?_
    | (refine idB ?_; first | refine bh rfl ?_ | refine bm rfl ?_)
    | refine W_skip ?_
    | refine W_block ?_
    | refine W_exit ?_
    | refine W_ret ?_
    | refine W_label ?_
    | refine W_scope ?_
    | refine sn ?_
    | refine sr ?_
    | refine se ?_
    | (refine idR ?_; first | refine ret1 rfl rfl rfl ?_ | refine rL1 rfl (by first | exact trivial | exact ⟨rfl, trivial⟩) (by first | exact ResO.tmp rfl | exact ResO.cellBA rfl rfl rfl | exact ResO.cellB1 rfl rfl rfl | exact ResO.cellEA rfl rfl | exact ResO.cellE1 rfl) ?_)
    | refine Le.bool ?_
    | refine Le.int ?_
    | refine Le.str ?_
  all_goals rfl

open Classical in
noncomputable def escL (c : UInt8) : List UInt8 := if plainP c then [c] else 92 :: hexL c
noncomputable def textL (v : Val) : List UInt8 :=
  if v.kind = 1 then Lib.itoa v.n else if v.kind = 2 then (if v.n = 1 then [116, 114, 117, 101] else [102, 97, 108, 115, 101]) else if v.kind = 5 then 64 :: Lib.itoa v.n else if v.kind = 6 then 33 :: Lib.itoa v.n
  else if v.kind = 7 then 58 :: v.s else if v.kind = 4 then 35 :: v.s.flatMap hexL else 34 :: (v.s.flatMap escL ++ [34])
noncomputable def tL (v : Val) : List UInt8 := if mayB v then textL v else []

/-- The heap with a builder alone. -/
abbrev bH (p : AV) (l : List UInt8) : List AObj := [.cells (bCells p 1 l []) (some 80), .tail l.length 1 5]
theorem bH_B {p : AV} {l : List UInt8} (hp : ownP 0 p) (hl : l.length < 1099511627776) : Bld (bH p l) 0 1 80 p l [] := ⟨rfl, rfl, hp, hl⟩
theorem bH_next {p : AV} {l : List UInt8} (m : List UInt8) : bldH (bH p l) 0 1 80 m [] = bH (.bp 0 0) m := rfl
theorem hexs_len (l : List UInt8) : (l.flatMap hexL).length = 2 * l.length := by
  induction l with
  | nil => rfl
  | cons c l ih => rw [List.flatMap_cons, List.length_append, ih]; show 2 + _ = _; rw [List.length_cons]; omega
theorem escs_len (l : List UInt8) : (l.flatMap escL).length ≤ 3 * l.length := by
  induction l with
  | nil => exact Nat.le_refl _
  | cons c l ih =>
    rw [List.flatMap_cons, List.length_append, List.length_cons]
    have : (escL c).length ≤ 3 := by unfold escL; split <;> simp [hexL]
    omega
theorem flatMap_take {α : Type} (f : UInt8 → List α) (s : List UInt8) (i : Nat) (hi : i < s.length) : (s.take (i + 1)).flatMap f = (s.take i).flatMap f ++ f s[i] := by
  rw [List.take_succ_eq_append_getElem hi, List.flatMap_append]; simp

theorem mayB_t (v : Val) : (mayB v = true) = MayP v := by unfold mayB; rw [dP_t]
theorem mayB_f (v : Val) : (mayB v = false) = ¬ MayP v := by unfold mayB; rw [dP_f]
theorem tL_t {v : Val} (h : MayP v) : tL v = textL v := by unfold tL; rw [if_pos ((mayB_t v).mpr h)]
theorem tL_f {v : Val} (h : ¬ MayP v) : tL v = [] := by unfold tL; rw [if_neg (by rw [mayB_t]; exact h)]
theorem tE_t {v : Val} (h : MayP v) : (if mayB v then (0 : Int) else 10) = 0 := by rw [if_pos ((mayB_t v).mpr h)]
theorem tE_f {v : Val} (h : ¬ MayP v) : (if mayB v then (0 : Int) else 10) = 10 := by rw [if_neg (by rw [mayB_t]; exact h)]

set_option maxHeartbeats 16000000 in
theorem text_pc [GlobF Tryd.prog] (hp : PowOK) (v : Val) (hs : v.s.length < 268435456) (h0 : -9223372036854775808 ≤ v.n) (h1 : v.n ≤ 9223372036854775807) : PC Tryd.prog 41 [eV v] (.tu [str (tL v), .sc (.int .i64 (if mayB v then 0 else 10))]) := by
  have hil := Lib.itoa_length_le v.n h0 h1
  refine PC.of_body Tryd.func41 Tryd.ntmps41 rfl rfl rfl ?_
  repeat' first
    | (refine m_allocT rfl ?_; refine WL_adoptC 0 1 1 5 rfl rfl ?_)
    | (apply p1 (hd := rfl); case hop => first | (apply D_move; rfl) | (apply D_assign; rfl) | (apply D_pc (may_pc v (by omega)); rfl; exact .same rfl .nil) | (apply D_pc (fmt_pc hp v.n h0 h1); rfl; exact .same rfl (.same rfl .nil)) | (apply D_pc (fmtB_pc _); rfl; exact .same rfl .nil) | (apply D_cat; rfl; rfl; focus (simp only [List.length_cons, List.length_nil, List.length_append]; omega)) | (apply D_load1; rfl) | (apply D_fld; rfl) | (apply D_int; rfl; rfl; rfl) | (apply D_lenM; rfl) | (apply D_len_sl; rfl) | (apply D_str; rfl; rfl; rfl) | (apply D_not; rfl) | (apply D_loadW; rfl; rfl) | (apply D_loadA; rfl; rfl) | (apply D_box; rfl; rfl) | (apply D_s2b; rfl) | (apply D_len_nil; rfl) | (apply D_idxAn; rfl; rfl; (first | omega | (simp; done))) | (apply D_idxA; rfl; rfl; omega; (first | omega | (simp; done) | (simp; omega))) | (apply D_idxA0; rfl; rfl; omega; (first | omega | (simp; done) | (simp; omega))) | exact D_fldB rfl | (apply D_lenR; rfl) | (apply D_ixRn; rfl; rfl; (first | omega | (simp; done))) | (apply D_ixR; rfl; rfl; all_goals first | omega | ((repeat rw [w64 _ (by omega) (by omega)]); omega) | decide) | (apply D_cat; rfl; rfl; all_goals first | omega | ((repeat rw [w64 _ (by omega) (by omega)]); omega) | decide))
    | refine W_seq ?_
    | refine W_region ?_
    | (refine idC ?_; first | refine c1 rfl ?_ | refine c0 rfl ?_ | refine cs rfl (fun _ => ?_) (fun _ => ?_))
    | refine WL_nil ?_
    | refine tn ?_
    | refine tr ?_
    | refine br ?_
    | refine bn ?_
    | refine te ?_
    | (refine idB ?_; first | refine bh rfl ?_ | refine bm rfl ?_)
    | refine W_skip ?_
    | refine W_block ?_
    | refine W_exit ?_
    | refine W_ret ?_
    | refine W_label ?_
    | refine W_scope ?_
    | refine sn ?_
    | refine sr ?_
    | refine se ?_
    | (refine idR ?_; first | refine ret2 rfl rfl rfl rfl ?_ ?_ | refine rL2 rfl (by first | exact trivial | exact ⟨rfl, trivial⟩) (by first | exact ResO.tmp rfl | exact ResO.cellBA rfl rfl rfl | exact ResO.cellB1 rfl rfl rfl | exact ResO.cellEA rfl rfl | exact ResO.cellE1 rfl) (by first | exact ResO.tmp rfl | exact ResO.cellBA rfl rfl rfl | exact ResO.cellB1 rfl rfl rfl | exact ResO.cellEA rfl rfl | exact ResO.cellE1 rfl) ?_ ?_)
    | (refine idLd ?_; first | refine p1L (D_loadB1 rfl rfl rfl) rfl ?_ | refine p1L (D_loadBA rfl rfl rfl) rfl ?_ | refine p1L (D_loadB1 rfl (by (repeat first | assumption | exact get_last | (refine get_last2 ?_; focus (simp; done)) | apply get_set | apply get_app | (apply get_ne; focus omega) | (apply get_ne; focus (simp only [List.length_set, List.length_append, List.length_cons, List.length_nil]; omega))); done) (by rfl)) rfl ?_ | refine p1L (D_loadBA rfl (by (repeat first | assumption | exact get_last | (refine get_last2 ?_; focus (simp; done)) | apply get_set | apply get_app | (apply get_ne; focus omega) | (apply get_ne; focus (simp only [List.length_set, List.length_append, List.length_cons, List.length_nil]; omega))); done) (by rfl)) rfl ?_)
    | (refine idA ?_; first | refine m_var rfl rfl rfl rfl rfl rfl rfl ?_ | refine m_alloc rfl ?_)
    | refine Le.bool ?_
    | refine Le.int ?_
    | refine Le.str ?_
    | (refine m_call (d := 44) (wbyte_ac (n := 2) rfl (bH_B (l := []) (.inl rfl) (by decide)) 35) rfl rfl rfl ?_; rintro _ _ ⟨rfl, rfl⟩; rw [bH_next])
    | (refine m_call (d := 58) (wbyte_ac (n := 2) rfl (bH_B (l := []) (.inl rfl) (by decide)) 34) rfl rfl rfl ?_; rintro _ _ ⟨rfl, rfl⟩; rw [bH_next])
  all_goals first
    | (rename_i hm; rw [tL_f hm]; done)
    | (rename_i hm; rw [tE_f hm]; done)
    | (rw [tE_t (by assumption)]; done)
    | (rw [tL_t (by assumption)]; simp [textL, iEq, *]; done)
    | skip
  · rename_i hm k1 k2 k5 k6 k7 k4
    refine W_loopL (X := Nat) (fun i => [(4, .bp 0 0), (47, bytesAV v.s), (48, .sc (.int .i64 (v.s.length : Int))), (49, .sc (.int .i64 (i : Int)))]) (fun i => bH (.bp 0 0) (35 :: (v.s.take i).flatMap hexL))
      (fun i => i ≤ v.s.length) (fun i => v.s.length - i) 0 (Nat.zero_le _) ⟨rfl, rfl, rfl, rfl, trivial⟩ rfl ?_
    intro i hi
    have hlen : (35 :: (v.s.take i).flatMap hexL).length < 1099511627776 := by
      rw [List.length_cons, hexs_len, List.length_take]; omega
    repeat' first
      | (apply p1 (hd := rfl); case hop => first | (apply D_move; rfl) | (apply D_assign; rfl) | (apply D_pc (hex_pc _); rfl; exact .same rfl .nil) | (apply D_load1; rfl) | (apply D_fld; rfl) | (apply D_int; rfl; rfl; rfl) | (apply D_lenM; rfl) | (apply D_len_sl; rfl) | (apply D_str; rfl; rfl; rfl) | (apply D_not; rfl) | (apply D_loadW; rfl; rfl) | (apply D_loadA; rfl; rfl) | (apply D_box; rfl; rfl) | (apply D_s2b; rfl) | (apply D_len_nil; rfl) | (apply D_idxAn; rfl; rfl; (first | omega | (simp; done))) | (apply D_idxA; rfl; rfl; omega; (first | omega | (simp; done) | (simp; omega))) | (apply D_idxA0; rfl; rfl; omega; (first | omega | (simp; done) | (simp; omega))) | exact D_fldB rfl | (apply D_lenR; rfl) | (apply D_ixRn; rfl; rfl; (first | omega | (simp; done))) | (apply D_ixR; rfl; rfl; all_goals first | omega | ((repeat rw [w64 _ (by omega) (by omega)]); omega) | decide) | (apply D_cat; rfl; rfl; all_goals first | omega | ((repeat rw [w64 _ (by omega) (by omega)]); omega) | decide))
      | refine W_seq ?_
      | refine W_region ?_
      | (refine idC ?_; first | refine c1 rfl ?_ | refine c0 rfl ?_ | refine cs rfl (fun _ => ?_) (fun _ => ?_))
      | refine WL_nil ?_
      | refine tn ?_
      | refine tr ?_
      | refine br ?_
      | refine bn ?_
      | refine te ?_
      | (refine idB ?_; first | refine bh rfl ?_ | refine bm rfl ?_)
      | refine W_skip ?_
      | refine W_block ?_
      | refine W_exit ?_
      | refine W_ret ?_
      | refine W_label ?_
      | refine W_scope ?_
      | refine sn ?_
      | refine sr ?_
      | refine se ?_
      | (refine idR ?_; first | refine ret2 rfl rfl rfl rfl ?_ ?_ | refine rL2 rfl (by first | exact trivial | exact ⟨rfl, trivial⟩) (by first | exact ResO.tmp rfl | exact ResO.cellBA rfl rfl rfl | exact ResO.cellB1 rfl rfl rfl | exact ResO.cellEA rfl rfl | exact ResO.cellE1 rfl) (by first | exact ResO.tmp rfl | exact ResO.cellBA rfl rfl rfl | exact ResO.cellB1 rfl rfl rfl | exact ResO.cellEA rfl rfl | exact ResO.cellE1 rfl) ?_ ?_)
      | (refine idLd ?_; first | refine p1L (D_loadB1 rfl rfl rfl) rfl ?_ | refine p1L (D_loadBA rfl rfl rfl) rfl ?_ | refine p1L (D_loadB1 rfl (by (repeat first | assumption | exact get_last | (refine get_last2 ?_; focus (simp; done)) | apply get_set | apply get_app | (apply get_ne; focus omega) | (apply get_ne; focus (simp only [List.length_set, List.length_append, List.length_cons, List.length_nil]; omega))); done) (by rfl)) rfl ?_ | refine p1L (D_loadBA rfl (by (repeat first | assumption | exact get_last | (refine get_last2 ?_; focus (simp; done)) | apply get_set | apply get_app | (apply get_ne; focus omega) | (apply get_ne; focus (simp only [List.length_set, List.length_append, List.length_cons, List.length_nil]; omega))); done) (by rfl)) rfl ?_)
      | (refine idA ?_; first | refine m_var rfl rfl rfl rfl rfl rfl rfl ?_ | refine m_alloc rfl ?_)
      | refine Le.bool ?_
      | refine Le.int ?_
      | refine Le.str ?_
      | (refine m_call (d := 55) (wstr_ac (n := 2) rfl (bH_B (.inr rfl) hlen) (hexL _) (by show 2 < _; decide)) rfl rfl rfl ?_; rintro _ _ ⟨rfl, rfl⟩; rw [bH_next])
      | (refine m_call (d := 57) (bstr_ac (bH_B (.inr rfl) hlen)) rfl rfl rfl ?_; rintro _ _ ⟨rfl, rfl⟩)
    · have hi' : i < v.s.length := by omega
      exact ⟨rfl, i + 1, by omega, by omega, ⟨rfl, rfl, rfl, ieq (wsucc i (by omega)), trivial⟩, by rw [flatMap_take _ _ _ hi']; rfl⟩
    · rw [tL_t hm, List.take_of_length_le (by omega)]; simp [textL, *]
    · rw [tE_t hm]
  · rename_i hm k1 k2 k5 k6 k7 k4
    refine W_loopL (X := Nat) (fun i => [(4, .bp 0 0), (61, bytesAV v.s), (62, .sc (.int .i64 (v.s.length : Int))), (63, .sc (.int .i64 (i : Int)))]) (fun i => bH (.bp 0 0) (34 :: (v.s.take i).flatMap escL))
      (fun i => i ≤ v.s.length) (fun i => v.s.length - i) 0 (Nat.zero_le _) ⟨rfl, rfl, rfl, rfl, trivial⟩ rfl ?_
    intro i hi
    have hlen : (34 :: (v.s.take i).flatMap escL).length < 805306370 := by
      rw [List.length_cons]; have := escs_len (v.s.take i); rw [List.length_take] at this; omega
    have hlen2 : (34 :: (v.s.take i).flatMap escL).length < 1099511627776 := by omega
    repeat' first
      | (apply p1 (hd := rfl); case hop => first | (apply D_move; rfl) | (apply D_assign; rfl) | (apply D_pc (hex_pc _); rfl; exact .same rfl .nil) | (apply D_pc (plain_pc _); rfl; exact .same rfl .nil) | (apply D_cat; rfl; rfl; focus (first | (show 1 + 2 ≤ _; omega) | (simp only [List.length_cons, List.length_nil] at hlen ⊢; omega))) | (apply D_load1; rfl) | (apply D_fld; rfl) | (apply D_int; rfl; rfl; rfl) | (apply D_lenM; rfl) | (apply D_len_sl; rfl) | (apply D_str; rfl; rfl; rfl) | (apply D_not; rfl) | (apply D_loadW; rfl; rfl) | (apply D_loadA; rfl; rfl) | (apply D_box; rfl; rfl) | (apply D_s2b; rfl) | (apply D_len_nil; rfl) | (apply D_idxAn; rfl; rfl; (first | omega | (simp; done))) | (apply D_idxA; rfl; rfl; omega; (first | omega | (simp; done) | (simp; omega))) | (apply D_idxA0; rfl; rfl; omega; (first | omega | (simp; done) | (simp; omega))) | exact D_fldB rfl | (apply D_lenR; rfl) | (apply D_ixRn; rfl; rfl; (first | omega | (simp; done))) | (apply D_ixR; rfl; rfl; all_goals first | omega | ((repeat rw [w64 _ (by omega) (by omega)]); omega) | decide) | (apply D_cat; rfl; rfl; all_goals first | omega | ((repeat rw [w64 _ (by omega) (by omega)]); omega) | decide))
      | refine W_seq ?_
      | refine W_region ?_
      | (refine idC ?_; first | refine c1 rfl ?_ | refine c0 rfl ?_ | refine cs rfl (fun _ => ?_) (fun _ => ?_))
      | refine WL_nil ?_
      | refine tn ?_
      | refine tr ?_
      | refine br ?_
      | refine bn ?_
      | refine te ?_
      | (refine idB ?_; first | refine bh rfl ?_ | refine bm rfl ?_)
      | refine W_skip ?_
      | refine W_block ?_
      | refine W_exit ?_
      | refine W_ret ?_
      | refine W_label ?_
      | refine W_scope ?_
      | refine sn ?_
      | refine sr ?_
      | refine se ?_
      | (refine idR ?_; first | refine ret2 rfl rfl rfl rfl ?_ ?_ | refine rL2 rfl (by first | exact trivial | exact ⟨rfl, trivial⟩) (by first | exact ResO.tmp rfl | exact ResO.cellBA rfl rfl rfl | exact ResO.cellB1 rfl rfl rfl | exact ResO.cellEA rfl rfl | exact ResO.cellE1 rfl) (by first | exact ResO.tmp rfl | exact ResO.cellBA rfl rfl rfl | exact ResO.cellB1 rfl rfl rfl | exact ResO.cellEA rfl rfl | exact ResO.cellE1 rfl) ?_ ?_)
      | (refine idLd ?_; first | refine p1L (D_loadB1 rfl rfl rfl) rfl ?_ | refine p1L (D_loadBA rfl rfl rfl) rfl ?_ | refine p1L (D_loadB1 rfl (by (repeat first | assumption | exact get_last | (refine get_last2 ?_; focus (simp; done)) | apply get_set | apply get_app | (apply get_ne; focus omega) | (apply get_ne; focus (simp only [List.length_set, List.length_append, List.length_cons, List.length_nil]; omega))); done) (by rfl)) rfl ?_ | refine p1L (D_loadBA rfl (by (repeat first | assumption | exact get_last | (refine get_last2 ?_; focus (simp; done)) | apply get_set | apply get_app | (apply get_ne; focus omega) | (apply get_ne; focus (simp only [List.length_set, List.length_append, List.length_cons, List.length_nil]; omega))); done) (by rfl)) rfl ?_)
      | (refine idA ?_; first | refine m_var rfl rfl rfl rfl rfl rfl rfl ?_ | refine m_alloc rfl ?_)
      | refine Le.bool ?_
      | refine Le.int ?_
      | refine Le.str ?_
      | (refine m_call (d := 70) (wbyte_ac (n := 2) rfl (bH_B (.inr rfl) hlen2) _) rfl rfl rfl ?_; rintro _ _ ⟨rfl, rfl⟩; rw [bH_next])
      | (refine m_call (d := 74) (wstr_ac (n := 2) rfl (bH_B (.inr rfl) hlen2) _ (by show 3 < _; decide)) rfl rfl rfl ?_; rintro _ _ ⟨rfl, rfl⟩; rw [bH_next])
      | (refine m_call (d := 76) (bstr_ac (bH_B (.inr rfl) hlen2)) rfl rfl rfl ?_; rintro _ _ ⟨rfl, rfl⟩)
    · have hi' : i < v.s.length := by omega
      rename_i _ hpl
      have he : escL v.s[i] = [v.s[i]] := by unfold escL; rw [if_pos ((plainB_t _).mp hpl)]
      exact ⟨rfl, i + 1, by omega, by omega, ⟨rfl, rfl, rfl, ieq (wsucc i (by omega)), trivial⟩, by rw [flatMap_take _ _ _ hi', he]; rfl⟩
    · have hi' : i < v.s.length := by omega
      rename_i _ hpl
      have he : escL v.s[i] = 92 :: hexL v.s[i] := by unfold escL; rw [if_neg ((plainB_f _).mp hpl)]
      exact ⟨rfl, i + 1, by omega, by omega, ⟨rfl, rfl, rfl, ieq (wsucc i (by omega)), trivial⟩, by rw [flatMap_take _ _ _ hi', he]; rfl⟩
    · rw [tL_t hm, List.take_of_length_le (by omega)]; simp [textL, *]
    · rw [tE_t hm]
end Go.Proofs
