/- Contracts of calc's functions: Do. -/
import Derived.Test.YtaphfieahcimcaaGreatDoorZQD1
namespace Go.Proofs
open Go.AL
attribute [local irreducible] Go.AL.W Go.AL.WL Go.AL.WD Go.AL.POp Go.AL.PPOp Go.AL.POpS Go.AL.PC Go.AL.AC Go.AL.YW Go.AL.Ret Go.AL.Le Go.AL.thn Go.AL.inBlk Go.AL.scp

open Classical in
noncomputable def twoV (s : List UInt8) (a b : Val) : Val :=
  if s = [109, 105, 110] then (if cmpV a b ≤ 0 then a else b) else if s = [109, 97, 120] then (if cmpV a b ≤ 0 then b else a) else if s = [99, 97, 116] then ⟨a.kind, 0, a.s ++ b.s⟩
  else if a.kind ≠ 1 ∨ b.kind ≠ 1 then zV else ⟨1, recN s a.n b.n, []⟩
def twoP (s : List UInt8) (a b : Val) : Prop :=
  if s = [109, 105, 110] then True else if s = [109, 97, 120] then True else if s = [99, 97, 116] then a.kind = b.kind ∧ (a.kind = 3 ∨ a.kind = 4)
  else (a.kind = 1 ∧ b.kind = 1) ∧ recP s a.n b.n
abbrev mnL : List UInt8 := [109, 105, 110]
abbrev mxL : List UInt8 := [109, 97, 120]
abbrev ctL : List UInt8 := [99, 97, 116]
theorem sEq_y {s t : List UInt8} (h : s = t) : sEq s t = true := by rw [sEq_t]; exact h
theorem sEq_n {s t : List UInt8} (h : s ≠ t) : sEq s t = false := by cases e : sEq s t; rfl; rw [sEq_t] at e; exact absurd e h
theorem tm1 {s : List UInt8} {a b : Val} (h : s = mnL) (e : iLe (cmpV a b) 0 = sEq s mnL) : twoV s a b = a := by
  rw [sEq_y h, iLe_t] at e; unfold twoV; rw [if_pos h, if_pos e]
theorem tm2 {s : List UInt8} {a b : Val} (h : s = mnL) (e : iLe (cmpV a b) 0 ≠ sEq s mnL) : twoV s a b = b := by
  rw [sEq_y h] at e; unfold twoV; rw [if_pos h, if_neg (fun h => e ((iLe_t _ _).mpr h))]
theorem tm3 {s : List UInt8} {a b : Val} (h0 : s ≠ mnL) (h : s = mxL) (e : iLe (cmpV a b) 0 = sEq s mnL) : twoV s a b = a := by
  rw [sEq_n h0, iLe_f] at e; unfold twoV; rw [if_neg h0, if_pos h, if_neg (by omega)]
theorem tm4 {s : List UInt8} {a b : Val} (h0 : s ≠ mnL) (h : s = mxL) (e : iLe (cmpV a b) 0 ≠ sEq s mnL) : twoV s a b = b := by
  rw [sEq_n h0] at e; unfold twoV
  have e2 : iLe (cmpV a b) 0 = true := by cases h : iLe (cmpV a b) 0 <;> simp_all
  rw [iLe_t] at e2; rw [if_neg h0, if_pos h, if_pos e2]
theorem tc {s : List UInt8} {a b : Val} (h0 : s ≠ mnL) (h1 : s ≠ mxL) (h : s = ctL) : twoV s a b = ⟨a.kind, 0, a.s ++ b.s⟩ := by unfold twoV; rw [if_neg h0, if_neg h1, if_pos h]
theorem tcP {s : List UInt8} {a b : Val} (h0 : s ≠ mnL) (h1 : s ≠ mxL) (h : s = ctL) : twoP s a b = (a.kind = b.kind ∧ (a.kind = 3 ∨ a.kind = 4)) := by unfold twoP; rw [if_neg h0, if_neg h1, if_pos h]
theorem td {s : List UInt8} {a b : Val} (h0 : s ≠ mnL) (h1 : s ≠ mxL) (h : s ≠ ctL) (hk : a.kind ≠ 1 ∨ b.kind ≠ 1) : twoV s a b = zV := by unfold twoV; rw [if_neg h0, if_neg h1, if_neg h, if_pos hk]
theorem td2 {s : List UInt8} {a b : Val} (h0 : s ≠ mnL) (h1 : s ≠ mxL) (h : s ≠ ctL) (hk : a.kind = 1) (hk2 : b.kind = 1) : twoV s a b = ⟨1, recN s a.n b.n, []⟩ := by
  unfold twoV; rw [if_neg h0, if_neg h1, if_neg h, if_neg (by omega)]
theorem tdP {s : List UInt8} {a b : Val} (h0 : s ≠ mnL) (h1 : s ≠ mxL) (h : s ≠ ctL) : twoP s a b = ((a.kind = 1 ∧ b.kind = 1) ∧ recP s a.n b.n) := by unfold twoP; rw [if_neg h0, if_neg h1, if_neg h]
set_option maxHeartbeats 16000000 in
theorem two_pc [GlobF Tryz.prog] (s : List UInt8) (a b : Val) (ha : inR a.n) (hb : inR b.n) (hsa : a.s.length < 134217728) (hsb : b.s.length < 134217728) :
    PC Tryz.prog 9 [str s, eV a, eV b] (.tu [eV (twoV s a b), .sc (.bool (dP (twoP s a b)))]) := by
  refine PC.of_body Tryz.func9 Tryz.ntmps9 rfl rfl rfl ?_
  repeat' first
    | (apply p1 (hd := rfl); case hop => first | (apply D_move; rfl) | (apply D_assign; rfl) | (apply D_pc (compare_pc a b); rfl; exact .same rfl (.same rfl .nil)) | (apply D_pc (reckon_pc s a.n b.n ha hb); rfl; exact .same rfl (.same rfl (.same rfl .nil))) | (apply D_pc (cnum_pc _); rfl; exact .same rfl .nil) | (apply D_load1; rfl) | (apply D_fld; rfl) | (apply D_pickT; rfl; rfl) | (apply D_pickF; rfl; rfl) | (apply D_int; rfl; rfl; rfl) | (apply D_str; rfl; rfl; rfl) | (apply D_ext; rfl; rfl) | (apply D_loadW; rfl; rfl) | (apply D_loadA; rfl; rfl) | (apply D_box; rfl; rfl) | (apply D_beq; rfl; rfl) | (apply D_bne; rfl; rfl) | exact D_build rfl | exact D_buildA rfl | exact D_fldB rfl | (apply D_cat; rfl; rfl; all_goals first | omega | ((repeat rw [w64 _ (by omega) (by omega)]); omega) | decide))
    | refine W_seq ?_
    | refine W_region ?_
    | (refine idC ?_; first | refine c1 rfl ?_ | refine c0 rfl ?_ | refine cs rfl (fun _ => ?_) (fun _ => ?_))
    | refine WL_nil ?_
    | (refine idG ?_; first | refine g0t rfl rfl rfl ?_ | refine g0f rfl rfl rfl ?_ | refine g0u rfl rfl rfl ?_ | refine gr rfl rfl ?_ | refine gs rfl rfl (fun _ => ?_) (fun _ => ?_) | refine grn rfl rfl ?_)
    | refine tn ?_
    | refine tr ?_
    | refine br ?_
    | refine bn ?_
    | refine te ?_
    | (refine idB ?_; first | refine bh rfl ?_ | refine bm rfl ?_)
    | refine W_skip ?_
    | refine W_block ?_
    | refine W_exit ?_
    | refine W_ret ?_
    | refine W_label ?_
    | refine W_scope ?_
    | refine sn ?_
    | refine sr ?_
    | refine se ?_
    | (refine idR ?_; first | refine ret2 rfl rfl rfl rfl ?_ ?_ | refine rL2 rfl (by first | exact trivial | exact ⟨rfl, trivial⟩) (by first | exact ResO.tmp rfl | exact ResO.cellBA rfl rfl rfl | exact ResO.cellB1 rfl rfl rfl | exact ResO.cellEA rfl rfl | exact ResO.cellE1 rfl) (by first | exact ResO.tmp rfl | exact ResO.cellBA rfl rfl rfl | exact ResO.cellB1 rfl rfl rfl | exact ResO.cellEA rfl rfl | exact ResO.cellE1 rfl) ?_ ?_)
    | (refine idLd ?_; first | refine p1L (D_loadB1 rfl rfl rfl) rfl ?_ | refine p1L (D_loadBA rfl rfl rfl) rfl ?_ | refine p1L (D_loadB1 rfl (by (repeat first | assumption | exact get_last | (refine get_last2 ?_; focus (simp; done)) | apply get_set | apply get_app | (apply get_ne; focus omega) | (apply get_ne; focus (simp only [List.length_set, List.length_append, List.length_cons, List.length_nil]; omega))); done) (by rfl)) rfl ?_ | refine p1L (D_loadBA rfl (by (repeat first | assumption | exact get_last | (refine get_last2 ?_; focus (simp; done)) | apply get_set | apply get_app | (apply get_ne; focus omega) | (apply get_ne; focus (simp only [List.length_set, List.length_append, List.length_cons, List.length_nil]; omega))); done) (by rfl)) rfl ?_)
    | (refine idA ?_; first | refine m_var rfl rfl rfl rfl rfl rfl rfl ?_ | refine m_alloc rfl ?_)
    | (refine idS ?_; first | refine pS (S_store rfl rfl rfl rfl rfl rfl rfl) ?_ | refine pS (S_store rfl rfl rfl (by (repeat first | assumption | exact get_last | (refine get_last2 ?_; focus (simp; done)) | apply get_set | apply get_app | (apply get_ne; focus omega) | (apply get_ne; focus (simp only [List.length_set, List.length_append, List.length_cons, List.length_nil]; omega))); done) (by rfl) (by rfl) (by rfl)) ?_)
    | refine Le.bool ?_
    | refine Le.int ?_
    | refine Le.str ?_
    | (refine idW ?_; first | refine W_draw0 rfl ?_ | refine W_draw1 rfl ?_ | refine W_draw2 rfl ?_ | refine W_draw3 rfl ?_)
    | (apply d1 (hd := rfl); case hop => first | (apply D_move; rfl) | (apply D_assign; rfl) | (apply D_pc (compare_pc a b); rfl; exact .same rfl (.same rfl .nil)) | (apply D_pc (reckon_pc s a.n b.n ha hb); rfl; exact .same rfl (.same rfl (.same rfl .nil))) | (apply D_pc (cnum_pc _); rfl; exact .same rfl .nil) | (apply D_load1; rfl) | (apply D_fld; rfl) | (apply D_pickT; rfl; rfl) | (apply D_pickF; rfl; rfl) | (apply D_int; rfl; rfl; rfl) | (apply D_str; rfl; rfl; rfl) | (apply D_ext; rfl; rfl) | (apply D_loadW; rfl; rfl) | (apply D_loadA; rfl; rfl) | (apply D_box; rfl; rfl) | (apply D_beq; rfl; rfl) | (apply D_bne; rfl; rfl) | exact D_build rfl | exact D_buildA rfl | exact D_fldB rfl | (apply D_cat; rfl; rfl; all_goals first | omega | ((repeat rw [w64 _ (by omega) (by omega)]); omega) | decide))
    | (refine idDg ?_; first | refine dg0t rfl rfl rfl ?_ | refine dg0f rfl rfl rfl ?_ | refine dg0u rfl rfl rfl ?_ | refine dgr rfl rfl ?_ | refine dgs rfl rfl (fun _ => ?_) (fun _ => ?_))
    | (refine idDn ?_; first | refine dL _ (fun hp' hs => D_loadB1 rfl (hs.trans rfl) rfl) rfl ?_ | refine dL _ (fun hp' hs => D_loadBA rfl (hs.trans rfl) rfl) rfl ?_ | refine dS (S_store rfl rfl rfl rfl rfl rfl rfl) rfl ?_ | refine dV (S_alloc 0 rfl) rfl rfl ?_ | refine dV (S_alloc 1 rfl) rfl rfl ?_ | refine dV (S_alloc 2 rfl) rfl rfl ?_ | refine dV (S_alloc 3 rfl) rfl rfl ?_ | refine dV (S_alloc 4 rfl) rfl rfl ?_ | refine dV (S_alloc 5 rfl) rfl rfl ?_ | refine dV (S_alloc 6 rfl) rfl rfl ?_ | refine dV (S_alloc 7 rfl) rfl rfl ?_)
    | refine WD_nil (by first | decide +kernel | kernel_rfl | rfl) ?_
  all_goals first
    | contradiction
    | (refine dP_eq ?_; simp [twoP, iEq_t, *]; done)
    | (refine dP_F ?_; simp [twoP, *]; done)
    | (refine dP_T ?_; simp [twoP, *]; done)
    | (rw [tm1 (by assumption) (by assumption)]; exact Le.of_eq rfl)
    | (rw [tm2 (by assumption) (by assumption)]; exact Le.of_eq rfl)
    | (rw [tm3 (by assumption) (by assumption) (by assumption)]; exact Le.of_eq rfl)
    | (rw [tm4 (by assumption) (by assumption) (by assumption)]; exact Le.of_eq rfl)
    | (rw [tc (by assumption) (by assumption) (by assumption)]; exact Le.of_eq rfl)
    | (rw [td2 (by assumption) (by assumption) (by assumption) (by assumption) (by assumption)]; exact Le.of_eq rfl)
    | (rw [td (by assumption) (by assumption) (by assumption) (by omega)]; exact Le.of_eq rfl)
    | (refine dP_T ?_; rw [tcP (by assumption) (by assumption) (by assumption)]; omega)
    | (refine dP_F ?_; rw [tcP (by assumption) (by assumption) (by assumption)]; omega)
    | (refine dP_eq ?_; rw [tcP (by assumption) (by assumption) (by assumption), iEq_t]; omega)
    | (refine dP_F ?_; rw [tdP (by assumption) (by assumption) (by assumption)]; rintro ⟨h, _⟩; omega)
    | (rw [tdP (by assumption) (by assumption) (by assumption)]; simp [*]; done)
    | skip
  all_goals trace_state

def cutP (v f t : Val) : Prop := (v.kind = 3 ∨ v.kind = 4) ∧ f.kind = 1 ∧ t.kind = 1 ∧ 0 ≤ f.n ∧ f.n ≤ t.n ∧ t.n ≤ v.s.length
open Classical in
noncomputable def cutV (v f t : Val) : Val := if cutP v f t then ⟨v.kind, 0, (v.s.take t.n.toNat).drop f.n.toNat⟩ else zV
set_option maxHeartbeats 16000000 in
theorem ccut_pc [GlobF Tryz.prog] (v f t : Val) : PC Tryz.prog 10 [eV v, eV f, eV t] (.tu [eV (cutV v f t), .sc (.bool (dP (cutP v f t)))]) := by
  refine PC.of_body Tryz.func10 Tryz.ntmps10 rfl rfl rfl ?_
  repeat' first
    | (apply p1 (hd := rfl); case hop => first | (apply D_move; rfl) | (apply D_assign; rfl) | (apply D_load1; rfl) | (apply D_fld; rfl) | (apply D_pickT; rfl; rfl) | (apply D_pickF; rfl; rfl) | (apply D_int; rfl; rfl; rfl) | (apply D_len_str; rfl) | (apply D_loadW; rfl; rfl) | (apply D_loadA; rfl; rfl) | (apply D_box; rfl; rfl) | (apply D_slS; rfl; rfl; rfl; all_goals first | omega | ((repeat rw [w64 _ (by omega) (by omega)]); omega) | decide) | (apply D_slSh; rfl; rfl; all_goals first | omega | ((repeat rw [w64 _ (by omega) (by omega)]); omega) | decide) | (apply D_slSl; rfl; rfl; all_goals first | omega | ((repeat rw [w64 _ (by omega) (by omega)]); omega) | decide) | exact D_build rfl | exact D_buildA rfl | exact D_fldB rfl)
    | refine W_seq ?_
    | refine W_region ?_
    | (refine idC ?_; first | refine c1 rfl ?_ | refine c0 rfl ?_ | refine cs rfl (fun _ => ?_) (fun _ => ?_))
    | refine WL_nil ?_
    | (refine idG ?_; first | refine g0t rfl rfl rfl ?_ | refine g0f rfl rfl rfl ?_ | refine g0u rfl rfl rfl ?_ | refine gr rfl rfl ?_ | refine gs rfl rfl (fun _ => ?_) (fun _ => ?_) | refine grn rfl rfl ?_)
    | refine tn ?_
    | refine tr ?_
    | refine br ?_
    | refine bn ?_
    | refine te ?_
    | (refine idB ?_; first | refine bh rfl ?_ | refine bm rfl ?_)
    | refine W_skip ?_
    | refine W_block ?_
    | refine W_exit ?_
    | refine W_ret ?_
    | refine W_label ?_
    | refine W_scope ?_
    | refine sn ?_
    | refine sr ?_
    | refine se ?_
    | (refine idR ?_; first | refine ret2 rfl rfl rfl rfl ?_ ?_ | refine rL2 rfl (by first | exact trivial | exact ⟨rfl, trivial⟩) (by first | exact ResO.tmp rfl | exact ResO.cellBA rfl rfl rfl | exact ResO.cellB1 rfl rfl rfl | exact ResO.cellEA rfl rfl | exact ResO.cellE1 rfl) (by first | exact ResO.tmp rfl | exact ResO.cellBA rfl rfl rfl | exact ResO.cellB1 rfl rfl rfl | exact ResO.cellEA rfl rfl | exact ResO.cellE1 rfl) ?_ ?_)
    | (refine idLd ?_; first | refine p1L (D_loadB1 rfl rfl rfl) rfl ?_ | refine p1L (D_loadBA rfl rfl rfl) rfl ?_ | refine p1L (D_loadB1 rfl (by (repeat first | assumption | exact get_last | (refine get_last2 ?_; focus (simp; done)) | apply get_set | apply get_app | (apply get_ne; focus omega) | (apply get_ne; focus (simp only [List.length_set, List.length_append, List.length_cons, List.length_nil]; omega))); done) (by rfl)) rfl ?_ | refine p1L (D_loadBA rfl (by (repeat first | assumption | exact get_last | (refine get_last2 ?_; focus (simp; done)) | apply get_set | apply get_app | (apply get_ne; focus omega) | (apply get_ne; focus (simp only [List.length_set, List.length_append, List.length_cons, List.length_nil]; omega))); done) (by rfl)) rfl ?_)
    | (refine idA ?_; first | refine m_var rfl rfl rfl rfl rfl rfl rfl ?_ | refine m_alloc rfl ?_)
    | (refine idS ?_; first | refine pS (S_store rfl rfl rfl rfl rfl rfl rfl) ?_ | refine pS (S_store rfl rfl rfl (by (repeat first | assumption | exact get_last | (refine get_last2 ?_; focus (simp; done)) | apply get_set | apply get_app | (apply get_ne; focus omega) | (apply get_ne; focus (simp only [List.length_set, List.length_append, List.length_cons, List.length_nil]; omega))); done) (by rfl) (by rfl) (by rfl)) ?_)
    | refine Le.bool ?_
    | refine Le.int ?_
    | refine Le.str ?_
    | (refine idW ?_; first | refine W_draw0 rfl ?_ | refine W_draw1 rfl ?_ | refine W_draw2 rfl ?_ | refine W_draw3 rfl ?_)
    | (apply d1 (hd := rfl); case hop => first | (apply D_move; rfl) | (apply D_assign; rfl) | (apply D_load1; rfl) | (apply D_fld; rfl) | (apply D_pickT; rfl; rfl) | (apply D_pickF; rfl; rfl) | (apply D_int; rfl; rfl; rfl) | (apply D_len_str; rfl) | (apply D_loadW; rfl; rfl) | (apply D_loadA; rfl; rfl) | (apply D_box; rfl; rfl) | (apply D_slS; rfl; rfl; rfl; all_goals first | omega | ((repeat rw [w64 _ (by omega) (by omega)]); omega) | decide) | (apply D_slSh; rfl; rfl; all_goals first | omega | ((repeat rw [w64 _ (by omega) (by omega)]); omega) | decide) | (apply D_slSl; rfl; rfl; all_goals first | omega | ((repeat rw [w64 _ (by omega) (by omega)]); omega) | decide) | exact D_build rfl | exact D_buildA rfl | exact D_fldB rfl)
    | (refine idDg ?_; first | refine dg0t rfl rfl rfl ?_ | refine dg0f rfl rfl rfl ?_ | refine dg0u rfl rfl rfl ?_ | refine dgr rfl rfl ?_ | refine dgs rfl rfl (fun _ => ?_) (fun _ => ?_))
    | (refine idDn ?_; first | refine dL _ (fun hp' hs => D_loadB1 rfl (hs.trans rfl) rfl) rfl ?_ | refine dL _ (fun hp' hs => D_loadBA rfl (hs.trans rfl) rfl) rfl ?_ | refine dS (S_store rfl rfl rfl rfl rfl rfl rfl) rfl ?_ | refine dV (S_alloc 0 rfl) rfl rfl ?_ | refine dV (S_alloc 1 rfl) rfl rfl ?_ | refine dV (S_alloc 2 rfl) rfl rfl ?_ | refine dV (S_alloc 3 rfl) rfl rfl ?_ | refine dV (S_alloc 4 rfl) rfl rfl ?_ | refine dV (S_alloc 5 rfl) rfl rfl ?_ | refine dV (S_alloc 6 rfl) rfl rfl ?_ | refine dV (S_alloc 7 rfl) rfl rfl ?_)
    | refine WD_nil (by first | decide +kernel | kernel_rfl | rfl) ?_
  all_goals first
    | (refine dP_F ?_; unfold cutP; omega)
    | (refine dP_T ?_; unfold cutP; omega)
    | (rw [show cutV v f t = zV by unfold cutV; rw [if_neg (by unfold cutP; omega)]]; exact Le.of_eq rfl)
    | (rw [show cutV v f t = ⟨v.kind, 0, (v.s.take t.n.toNat).drop f.n.toNat⟩ by unfold cutV; rw [if_pos (by unfold cutP; omega)]]; exact Le.of_eq rfl)
    | skip
  all_goals trace_state
end Go.Proofs
