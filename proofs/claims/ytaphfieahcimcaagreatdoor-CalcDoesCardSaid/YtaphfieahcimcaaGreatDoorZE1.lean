/- Contracts of calc's functions: the reference's Do, in parts. -/
import Derived.Test.YtaphfieahcimcaaGreatDoorZQD4
import Derived.Test.YtaphfieahcimcaaGreatDoorZQC4
import Derived.Test.YtaphfieahcimcaaGreatDoorZQT5
import Derived.Test.YtaphfieahcimcaaGreatDoorZQT14
namespace Go.Proofs
open Go.AL
attribute [local irreducible] Go.AL.W Go.AL.WL Go.AL.WD Go.AL.POp Go.AL.PPOp Go.AL.POpS Go.AL.PC Go.AL.AC Go.AL.YW Go.AL.Ret Go.AL.Le Go.AL.thn Go.AL.inBlk Go.AL.scp

set_option maxHeartbeats 4000000 in
theorem rnum_pc [GlobF Tryz.prog] (n : Int) : PC Tryz.prog 27 [.sc (.int .i64 n)] (eV ⟨1, n, []⟩) := by
  refine PC.of_body Tryz.func27 Tryz.ntmps27 rfl rfl rfl ?_
  repeat' first
    | (apply p1 (hd := rfl); case hop => first | (apply D_move; rfl) | exact D_build rfl | exact D_buildA rfl)
    | refine W_seq ?_
    | refine W_region ?_
    | refine WL_nil ?_
    | refine tn ?_
    | refine tr ?_
    | refine br ?_
    | refine bn ?_
    | refine te ?_
    | (refine idB ?_; first | refine bh rfl ?_ | refine bm rfl ?_)
    | refine W_skip ?_
    | refine W_block ?_
    | refine W_exit ?_
    | refine W_ret ?_
    | refine W_label ?_
    | refine W_scope ?_
    | refine sn ?_
    | refine sr ?_
    | refine se ?_
    | (refine idR ?_; first | refine ret1 rfl rfl rfl ?_ | refine rL1 rfl (by first | exact trivial | exact ⟨rfl, trivial⟩) (by first | exact ResO.tmp rfl | exact ResO.cellBA rfl rfl rfl | exact ResO.cellB1 rfl rfl rfl | exact ResO.cellEA rfl rfl | exact ResO.cellE1 rfl) ?_)
    | (refine idA ?_; first | refine m_var rfl rfl rfl rfl rfl rfl rfl ?_ | refine m_alloc rfl ?_)
    | (refine idS ?_; first | refine pS (S_store rfl rfl rfl rfl rfl rfl rfl) ?_ | refine pS (S_store rfl rfl rfl (by (repeat first | assumption | exact get_last | (refine get_last2 ?_; focus (simp; done)) | apply get_set | apply get_app | (apply get_ne; focus omega) | (apply get_ne; focus (simp only [List.length_set, List.length_append, List.length_cons, List.length_nil]; omega))); done) (by rfl) (by rfl) (by rfl)) ?_)
    | refine Le.bool ?_
    | refine Le.int ?_
    | refine Le.str ?_
  all_goals exact Le.of_eq rfl
set_option maxHeartbeats 4000000 in
theorem rtext_pc [GlobF Tryz.prog] (s : List UInt8) : PC Tryz.prog 29 [str s] (eV ⟨3, 0, s⟩) := by
  refine PC.of_body Tryz.func29 Tryz.ntmps29 rfl rfl rfl ?_
  repeat' first
    | (apply p1 (hd := rfl); case hop => first | (apply D_move; rfl) | exact D_build rfl | exact D_buildA rfl)
    | refine W_seq ?_
    | refine W_region ?_
    | refine WL_nil ?_
    | refine tn ?_
    | refine tr ?_
    | refine br ?_
    | refine bn ?_
    | refine te ?_
    | (refine idB ?_; first | refine bh rfl ?_ | refine bm rfl ?_)
    | refine W_skip ?_
    | refine W_block ?_
    | refine W_exit ?_
    | refine W_ret ?_
    | refine W_label ?_
    | refine W_scope ?_
    | refine sn ?_
    | refine sr ?_
    | refine se ?_
    | (refine idR ?_; first | refine ret1 rfl rfl rfl ?_ | refine rL1 rfl (by first | exact trivial | exact ⟨rfl, trivial⟩) (by first | exact ResO.tmp rfl | exact ResO.cellBA rfl rfl rfl | exact ResO.cellB1 rfl rfl rfl | exact ResO.cellEA rfl rfl | exact ResO.cellE1 rfl) ?_)
    | (refine idA ?_; first | refine m_var rfl rfl rfl rfl rfl rfl rfl ?_ | refine m_alloc rfl ?_)
    | (refine idS ?_; first | refine pS (S_store rfl rfl rfl rfl rfl rfl rfl) ?_ | refine pS (S_store rfl rfl rfl (by (repeat first | assumption | exact get_last | (refine get_last2 ?_; focus (simp; done)) | apply get_set | apply get_app | (apply get_ne; focus omega) | (apply get_ne; focus (simp only [List.length_set, List.length_append, List.length_cons, List.length_nil]; omega))); done) (by rfl) (by rfl) (by rfl)) ?_)
    | refine Le.bool ?_
    | refine Le.int ?_
    | refine Le.str ?_
  all_goals exact Le.of_eq rfl

abbrev nV (n : Int) : Val := ⟨1, n, []⟩
theorem may_n (n : Int) : MayP (nV n) := .inr (.inl ⟨.inl rfl, rfl⟩)
theorem may_len {v : Val} (h : MayP v) : v.s.length ≤ 1000 := by
  unfold MayP at h
  rcases h with ⟨_, _, _, h⟩ | ⟨_, h⟩ | ⟨_, h, _⟩ | ⟨_, _, h⟩ | ⟨_, _, h⟩
  · rw [h]; decide
  · rw [h]; decide
  · rw [h]; decide
  · exact h
  · have := h.2.1; omega

/-! One value. -/
def one1P (s : List UInt8) (v : Val) : Prop :=
  if s = [110, 101, 103] then v.kind = 1 ∧ v.n ≠ -9223372036854775808 else if s = [97, 98, 115] then v.kind = 1 ∧ v.n ≠ -9223372036854775808 else if s = [108, 101, 110] then v.kind = 3 ∨ v.kind = 4 ∨ v.kind = 7
  else if s = [116, 101, 120, 116] then MayP v ∧ (tL v).length ≤ 1000 else if s = [118, 97, 108, 117, 101] then v.kind = 3 ∧ parseE v.s = 0 else if s = [110, 117, 109, 98, 101, 114] then v.kind = 2 ∨ v.kind = 5 ∨ v.kind = 6
  else if s = [116, 105, 109, 101] then v.kind = 1 else v.kind = 7
open Classical in
noncomputable def one1V (s : List UInt8) (v : Val) : Val :=
  if s = [110, 101, 103] then (if v.kind ≠ 1 ∨ v.n = -9223372036854775808 then zV else ⟨1, IntKind.i64.wrap (0 - v.n), []⟩)
  else if s = [97, 98, 115] then (if v.kind ≠ 1 ∨ v.n = -9223372036854775808 then zV else if v.n < 0 then ⟨1, IntKind.i64.wrap (0 - v.n), []⟩ else v) else if s = [108, 101, 110] then ⟨1, v.s.length, []⟩
  else if s = [116, 101, 120, 116] then ⟨3, 0, tL v⟩ else if s = [118, 97, 108, 117, 101] then parseV v.s else if s = [110, 117, 109, 98, 101, 114] then ⟨1, v.n, []⟩
  else if s = [116, 105, 109, 101] then ⟨6, v.n, []⟩ else ⟨3, 0, v.s⟩
set_option maxHeartbeats 16000000 in
theorem one1_pc [GlobF Tryz.prog] (hp : PowOK) (he : ErrsOK) (s : List UInt8) (v : Val) (hs : v.s.length < 134217728) (hr : inR v.n) :
    PC Tryz.prog 13 [str s, eV v] (.tu [eV (one1V s v), .sc (.bool (dP (one1P s v)))]) := by
  have htl := tL_lt hs hr
  refine PC.of_body Tryz.func13 Tryz.ntmps13 rfl rfl rfl ?_
  repeat' first
    | (apply p1 (hd := rfl); case hop => first | (apply D_move; rfl) | (apply D_assign; rfl) | (apply D_pc (rnum_pc _); rfl; exact .same rfl .nil) | (apply D_pc (rtext_pc _); rfl; exact .same rfl .nil) | (apply D_pc (text1_pc v (by omega) hr.1 hr.2); rfl; exact .same rfl .nil) | (apply D_pc (parse1_pc v.s (by omega)); rfl; exact .same rfl .nil) | (apply D_load1; rfl) | (apply D_fld; rfl) | (apply D_pickT; rfl; rfl) | (apply D_pickF; rfl; rfl) | (apply D_int; rfl; rfl; rfl) | (apply D_len_str; rfl) | (apply D_str; rfl; rfl; rfl) | (apply D_ext; rfl; rfl) | (apply D_loadW; rfl; rfl) | (apply D_loadA; rfl; rfl) | (apply D_box; rfl; rfl) | exact D_build rfl | exact D_buildA rfl | exact D_fldB rfl | (apply D_neg; rfl))
    | refine W_seq ?_
    | refine W_region ?_
    | (refine idC ?_; first | refine c1 rfl ?_ | refine c0 rfl ?_ | refine cs rfl (fun _ => ?_) (fun _ => ?_))
    | refine WL_nil ?_
    | (refine idG ?_; first | refine g0t rfl rfl rfl ?_ | refine g0f rfl rfl rfl ?_ | refine g0u rfl rfl rfl ?_ | refine gr rfl rfl ?_ | refine gs rfl rfl (fun _ => ?_) (fun _ => ?_) | refine grn rfl rfl ?_)
    | refine tn ?_
    | refine tr ?_
    | refine br ?_
    | refine bn ?_
    | refine te ?_
    | (refine idB ?_; first | refine bh rfl ?_ | refine bm rfl ?_)
    | refine W_skip ?_
    | refine W_block ?_
    | refine W_exit ?_
    | refine W_ret ?_
    | refine W_label ?_
    | refine W_scope ?_
    | refine sn ?_
    | refine sr ?_
    | refine se ?_
    | (refine idR ?_; first | refine ret2 rfl rfl rfl rfl ?_ ?_ | refine rL2 rfl (by first | exact trivial | exact ⟨rfl, trivial⟩) (by first | exact ResO.tmp rfl | exact ResO.cellBA rfl rfl rfl | exact ResO.cellB1 rfl rfl rfl | exact ResO.cellEA rfl rfl | exact ResO.cellE1 rfl) (by first | exact ResO.tmp rfl | exact ResO.cellBA rfl rfl rfl | exact ResO.cellB1 rfl rfl rfl | exact ResO.cellEA rfl rfl | exact ResO.cellE1 rfl) ?_ ?_)
    | (refine idLd ?_; first | refine p1L (D_loadB1 rfl rfl rfl) rfl ?_ | refine p1L (D_loadBA rfl rfl rfl) rfl ?_ | refine p1L (D_loadB1 rfl (by (repeat first | assumption | exact get_last | (refine get_last2 ?_; focus (simp; done)) | apply get_set | apply get_app | (apply get_ne; focus omega) | (apply get_ne; focus (simp only [List.length_set, List.length_append, List.length_cons, List.length_nil]; omega))); done) (by rfl)) rfl ?_ | refine p1L (D_loadBA rfl (by (repeat first | assumption | exact get_last | (refine get_last2 ?_; focus (simp; done)) | apply get_set | apply get_app | (apply get_ne; focus omega) | (apply get_ne; focus (simp only [List.length_set, List.length_append, List.length_cons, List.length_nil]; omega))); done) (by rfl)) rfl ?_)
    | (refine idA ?_; first | refine m_var rfl rfl rfl rfl rfl rfl rfl ?_ | refine m_alloc rfl ?_)
    | (refine idS ?_; first | refine pS (S_store rfl rfl rfl rfl rfl rfl rfl) ?_ | refine pS (S_store rfl rfl rfl (by (repeat first | assumption | exact get_last | (refine get_last2 ?_; focus (simp; done)) | apply get_set | apply get_app | (apply get_ne; focus omega) | (apply get_ne; focus (simp only [List.length_set, List.length_append, List.length_cons, List.length_nil]; omega))); done) (by rfl) (by rfl) (by rfl)) ?_)
    | refine Le.bool ?_
    | refine Le.int ?_
    | refine Le.str ?_
    | (refine idW ?_; first | refine W_draw0 rfl ?_ | refine W_draw1 rfl ?_ | refine W_draw2 rfl ?_ | refine W_draw3 rfl ?_)
    | (apply d1 (hd := rfl); case hop => first | (apply D_move; rfl) | (apply D_assign; rfl) | (apply D_pc (rnum_pc _); rfl; exact .same rfl .nil) | (apply D_pc (rtext_pc _); rfl; exact .same rfl .nil) | (apply D_pc (text1_pc v (by omega) hr.1 hr.2); rfl; exact .same rfl .nil) | (apply D_pc (parse1_pc v.s (by omega)); rfl; exact .same rfl .nil) | (apply D_load1; rfl) | (apply D_fld; rfl) | (apply D_pickT; rfl; rfl) | (apply D_pickF; rfl; rfl) | (apply D_int; rfl; rfl; rfl) | (apply D_len_str; rfl) | (apply D_str; rfl; rfl; rfl) | (apply D_ext; rfl; rfl) | (apply D_loadW; rfl; rfl) | (apply D_loadA; rfl; rfl) | (apply D_box; rfl; rfl) | exact D_build rfl | exact D_buildA rfl | exact D_fldB rfl | (apply D_neg; rfl))
    | (refine idDg ?_; first | refine dg0t rfl rfl rfl ?_ | refine dg0f rfl rfl rfl ?_ | refine dg0u rfl rfl rfl ?_ | refine dgr rfl rfl ?_ | refine dgs rfl rfl (fun _ => ?_) (fun _ => ?_))
    | (refine idDn ?_; first | refine dL _ (fun hp' hs => D_loadB1 rfl (hs.trans rfl) rfl) rfl ?_ | refine dL _ (fun hp' hs => D_loadBA rfl (hs.trans rfl) rfl) rfl ?_ | refine dS (S_store rfl rfl rfl rfl rfl rfl rfl) rfl ?_ | refine dV (S_alloc 0 rfl) rfl rfl ?_ | refine dV (S_alloc 1 rfl) rfl rfl ?_ | refine dV (S_alloc 2 rfl) rfl rfl ?_ | refine dV (S_alloc 3 rfl) rfl rfl ?_ | refine dV (S_alloc 4 rfl) rfl rfl ?_ | refine dV (S_alloc 5 rfl) rfl rfl ?_ | refine dV (S_alloc 6 rfl) rfl rfl ?_ | refine dV (S_alloc 7 rfl) rfl rfl ?_)
    | refine WD_nil (by first | decide +kernel | kernel_rfl | rfl) ?_
  all_goals first
    | contradiction
    | (refine Le.of_eq ?_; simp [one1V, *]; done)
    | (refine dP_eq ?_; simp [one1P, iEq_t, iEq_f, iLe_t, bNot_t, tE_iff, *]; done)
    | (refine dP_F ?_; simp [one1P, *]; done)
    | (refine dP_T ?_; simp [one1P, *]; done)
    | (simp [one1P, *]; done)
    | (rw [show one1V s v = zV by simp [one1V, *]]; exact Le.of_eq rfl)
    | (rw [show one1V s v = ⟨1, IntKind.i64.wrap (0 - v.n), []⟩ by simp [one1V, *]]; exact Le.of_eq rfl)
    | (rw [show one1V s v = v by simp [one1V, show ¬ v.n < 0 by omega, *]]; exact Le.of_eq rfl)
    | (rw [show one1V s v = ⟨1, v.s.length, []⟩ by simp [one1V, *]]; exact Le.of_eq rfl)
    | (rw [show one1V s v = ⟨3, 0, tL v⟩ by simp [one1V, *]]; exact Le.of_eq rfl)
    | (rw [show one1V s v = parseV v.s by simp [one1V, *]]; exact Le.of_eq rfl)
    | (rw [show one1V s v = ⟨1, v.n, []⟩ by simp [one1V, *]]; exact Le.of_eq rfl)
    | (rw [show one1V s v = ⟨6, v.n, []⟩ by simp [one1V, *]]; exact Le.of_eq rfl)
    | (rw [show one1V s v = ⟨3, 0, v.s⟩ by simp [one1V, *]]; exact Le.of_eq rfl)
    | (refine dP_eq ?_; rw [iEq_t, tE_iff]; simp [one1P, *]; done)
    | (have hmm := (tE_iff v).1 (by assumption); refine dP_eq ?_; rw [iLe_t]; simp [one1P, *]; omega)
    | (have hmm := mt (tE_iff v).2 (by assumption); refine dP_F ?_; simp [one1P, *]; done)
    | skip
  all_goals trace_state
theorem one1_ok {s : List UInt8} {v : Val} (hm : MayP v) (hr : inR v.n) : (one1P s v ↔ (oneP s v ∧ MayP (oneV s v))) ∧ (one1P s v → one1V s v = oneV s v) := by
  have hw := may_len hm
  unfold one1P one1V oneP oneV
  by_cases g1 : s = [110, 101, 103]
  · simp only [if_pos g1]
    exact ⟨⟨fun h => ⟨h, may_n _⟩, fun h => h.1⟩, fun h => by rw [if_neg (by rintro (e | e); exact e h.1; exact h.2 e)]⟩
  simp only [if_neg g1]
  by_cases g2 : s = [97, 98, 115]
  · simp only [if_pos g2]
    refine ⟨⟨fun h => ⟨h, may_n _⟩, fun h => h.1⟩, fun h => ?_⟩
    rw [if_neg (by rintro (e | e); exact e h.1; exact h.2 e)]
    unfold inR at hr
    have hwr : IntKind.i64.wrap (0 - v.n) = 0 - v.n := w64 _ (by have := h.2; omega) (by have := h.2; omega)
    rw [hwr]
    split
    · rename_i h2; rw [Int.max_eq_right (by omega)]
    · rename_i h2
      rw [Int.max_eq_left (by omega)]
      obtain ⟨k, n, t⟩ := v
      unfold MayP at hm
      simp only at hm h ⊢
      obtain ⟨rfl, _⟩ := h
      rcases hm with ⟨h, _⟩ | ⟨_, h⟩ | ⟨h, _⟩ | ⟨h | h, _⟩ | ⟨h, _⟩
      · omega
      · rw [h]
      all_goals omega
  simp only [if_neg g2]
  by_cases g3 : s = [108, 101, 110]
  · simp only [if_pos g3]
    exact ⟨⟨fun h => ⟨h, may_n _⟩, fun h => h.1⟩, fun _ => by first | trivial | rfl⟩
  simp only [if_neg g3]
  by_cases g4 : s = [116, 101, 120, 116]
  · simp only [if_pos g4]
    refine ⟨⟨fun h => ⟨h.1, .inr (.inr (.inr (.inl ⟨.inl rfl, rfl, h.2⟩)))⟩, fun h => ⟨h.1, may_len h.2⟩⟩, fun _ => by first | trivial | rfl⟩
  simp only [if_neg g4]
  by_cases g5 : s = [118, 97, 108, 117, 101]
  · simp only [if_pos g5]
    refine ⟨⟨fun h => ⟨h, ?_⟩, fun h => h.1⟩, fun _ => by first | trivial | rfl⟩
    rcases parse_cases v.s with ⟨w, h1, h2⟩ | h1
    · rw [(parse_ok h1 h2).1]; exact h2
    · have := (parse_no h1).2; have := h.2; omega
  simp only [if_neg g5]
  by_cases g6 : s = [110, 117, 109, 98, 101, 114]
  · simp only [if_pos g6]
    exact ⟨⟨fun h => ⟨by omega, may_n _⟩, fun h => by have := h.1; omega⟩, fun _ => by first | trivial | rfl⟩
  simp only [if_neg g6]
  by_cases g7 : s = [116, 105, 109, 101]
  · simp only [if_pos g7]
    exact ⟨⟨fun h => ⟨h, .inr (.inl ⟨.inr rfl, rfl⟩)⟩, fun h => h.1⟩, fun _ => by first | trivial | rfl⟩
  simp only [if_neg g7]
  exact ⟨⟨fun h => ⟨h, .inr (.inr (.inr (.inl ⟨.inl rfl, rfl, hw⟩)))⟩, fun h => h.1⟩, fun _ => by first | trivial | rfl⟩

/-! Two numbers. -/
open Classical in
noncomputable def sumN (a b : Int) : Int := if inR (a + b) then a + b else 0
set_option maxHeartbeats 8000000 in
theorem sum1_pc [GlobF Tryz.prog] (a b : Int) (ha : inR a) (hb : inR b) : PC Tryz.prog 55 [.sc (.int .i64 a), .sc (.int .i64 b)] (.tu [.sc (.int .i64 (sumN a b)), .sc (.bool (dP (inR (a + b))))]) := by
  obtain ⟨x1, k1, y1⟩ := wrap_c (9223372036854775807 - b)
  obtain ⟨x2, k2, y2⟩ := wrap_c (-9223372036854775808 - b)
  obtain ⟨x3, k3, y3⟩ := wrap_c (a + b)
  refine PC.of_body Tryz.func55 Tryz.ntmps55 rfl rfl rfl ?_
  repeat' first
    | (apply p1 (hd := rfl); case hop => first | (apply D_move; rfl) | (apply D_assign; rfl) | (apply D_pickT; rfl; rfl) | (apply D_pickF; rfl; rfl) | (apply D_int; rfl; rfl; rfl))
    | refine W_seq ?_
    | refine W_region ?_
    | (refine idC ?_; first | refine c1 rfl ?_ | refine c0 rfl ?_ | refine cs rfl (fun _ => ?_) (fun _ => ?_))
    | refine WL_nil ?_
    | (refine idG ?_; first | refine g0t rfl rfl rfl ?_ | refine g0f rfl rfl rfl ?_ | refine g0u rfl rfl rfl ?_ | refine gr rfl rfl ?_ | refine gs rfl rfl (fun _ => ?_) (fun _ => ?_) | refine grn rfl rfl ?_)
    | refine tn ?_
    | refine tr ?_
    | refine br ?_
    | refine bn ?_
    | refine te ?_
    | (refine idB ?_; first | refine bh rfl ?_ | refine bm rfl ?_)
    | refine W_skip ?_
    | refine W_block ?_
    | refine W_exit ?_
    | refine W_ret ?_
    | refine W_label ?_
    | refine W_scope ?_
    | refine sn ?_
    | refine sr ?_
    | refine se ?_
    | (refine idR ?_; first | refine ret2 rfl rfl rfl rfl ?_ ?_ | refine rL2 rfl (by first | exact trivial | exact ⟨rfl, trivial⟩) (by first | exact ResO.tmp rfl | exact ResO.cellBA rfl rfl rfl | exact ResO.cellB1 rfl rfl rfl | exact ResO.cellEA rfl rfl | exact ResO.cellE1 rfl) (by first | exact ResO.tmp rfl | exact ResO.cellBA rfl rfl rfl | exact ResO.cellB1 rfl rfl rfl | exact ResO.cellEA rfl rfl | exact ResO.cellE1 rfl) ?_ ?_)
    | refine Le.bool ?_
    | refine Le.int ?_
    | refine Le.str ?_
  all_goals first
    | contradiction
    | exact dP_F (by unfold inR at *; omega)
    | exact dP_T (by unfold inR at *; omega)
    | (rw [show sumN a b = 0 by unfold sumN; rw [if_neg (by unfold inR at *; omega)]]; done)
    | (rw [show sumN a b = a + b by unfold sumN; rw [if_pos (by unfold inR at *; omega)]]; unfold inR at *; omega)
    | skip
  all_goals trace_state
theorem mulc {a b : Int} (ha : inR a) (hb : inR b) (h0 : b ≠ 0) : ¬ inR (a * b) ↔ ((0 < b ∧ (Int.tdiv 9223372036854775807 b < a ∨ a < Int.tdiv (-9223372036854775808) b)) ∨ (b < 0 ∧ (a < Int.tdiv 9223372036854775807 b ∨ Int.tdiv (-9223372036854775808) b < a))) := by
  rcases Int.lt_or_gt_of_ne h0 with h | h
  · have e1 : Int.tdiv 9223372036854775807 b = -(9223372036854775807 / (-b)) := by
      have := Int.tdiv_neg 9223372036854775807 (-b)
      rw [Int.neg_neg] at this
      rw [this, Int.tdiv_eq_ediv_of_nonneg (by decide)]
    have e2 : Int.tdiv (-9223372036854775808) b = 9223372036854775808 / (-b) := by
      have := Int.neg_tdiv_neg 9223372036854775808 (-b)
      rw [Int.neg_neg] at this
      rw [this, Int.tdiv_eq_ediv_of_nonneg (by decide)]
    have m1 := Int.le_ediv_iff_mul_le (a := -a) (b := 9223372036854775807) (c := -b) (by omega)
    have m2 := Int.le_ediv_iff_mul_le (a := a) (b := 9223372036854775808) (c := -b) (by omega)
    rw [Int.neg_mul_neg] at m1
    rw [Int.mul_neg] at m2
    rw [e1, e2]; unfold inR
    omega
  · have e1 : Int.tdiv 9223372036854775807 b = 9223372036854775807 / b := Int.tdiv_eq_ediv_of_nonneg (by decide)
    have e2 : Int.tdiv (-9223372036854775808) b = -(9223372036854775808 / b) := by
      rw [Int.neg_tdiv, Int.tdiv_eq_ediv_of_nonneg (by decide)]
    have m1 := Int.le_ediv_iff_mul_le (a := a) (b := 9223372036854775807) (c := b) h
    have m2 := Int.le_ediv_iff_mul_le (a := -a) (b := 9223372036854775808) (c := b) h
    rw [Int.neg_mul] at m2
    rw [e1, e2]; unfold inR
    omega
open Classical in
noncomputable def prodN (a b : Int) : Int := if inR (a * b) then a * b else 0
set_option maxHeartbeats 8000000 in
theorem prod1_pc [GlobF Tryz.prog] (a b : Int) (ha : inR a) (hb : inR b) : PC Tryz.prog 56 [.sc (.int .i64 a), .sc (.int .i64 b)] (.tu [.sc (.int .i64 (prodN a b)), .sc (.bool (dP (inR (a * b))))]) := by
  by_cases h0 : a = 0 ∨ b = 0
  · have e : a * b = 0 := by rcases h0 with h | h <;> rw [h] <;> simp
    have e2 : prodN a b = 0 := by unfold prodN; rw [e]; split <;> rfl
    rw [e, e2]
    refine PC.of_body Tryz.func56 Tryz.ntmps56 rfl rfl rfl ?_
    repeat' first
      | (apply p1 (hd := rfl); case hop => first | (apply D_move; rfl) | (apply D_assign; rfl) | exact D_sc (D_quo rfl rfl (by omega)) rfl | (apply D_pickT; rfl; rfl) | (apply D_pickF; rfl; rfl) | (apply D_int; rfl; rfl; rfl) | (apply D_quo; rfl; rfl; first | omega | ((repeat rw [w64 _ (by omega) (by omega)]); omega) | decide))
      | refine W_seq ?_
      | refine W_region ?_
      | (refine idC ?_; first | refine c1 rfl ?_ | refine c0 rfl ?_ | refine cs rfl (fun _ => ?_) (fun _ => ?_))
      | refine WL_nil ?_
      | (refine idG ?_; first | refine g0t rfl rfl rfl ?_ | refine g0f rfl rfl rfl ?_ | refine g0u rfl rfl rfl ?_ | refine gr rfl rfl ?_ | refine gs rfl rfl (fun _ => ?_) (fun _ => ?_) | refine grn rfl rfl ?_)
      | refine tn ?_
      | refine tr ?_
      | refine br ?_
      | refine bn ?_
      | refine te ?_
      | (refine idB ?_; first | refine bh rfl ?_ | refine bm rfl ?_)
      | refine W_skip ?_
      | refine W_block ?_
      | refine W_exit ?_
      | refine W_ret ?_
      | refine W_label ?_
      | refine W_scope ?_
      | refine sn ?_
      | refine sr ?_
      | refine se ?_
      | (refine idR ?_; first | refine ret2 rfl rfl rfl rfl ?_ ?_ | refine rL2 rfl (by first | exact trivial | exact ⟨rfl, trivial⟩) (by first | exact ResO.tmp rfl | exact ResO.cellBA rfl rfl rfl | exact ResO.cellB1 rfl rfl rfl | exact ResO.cellEA rfl rfl | exact ResO.cellE1 rfl) (by first | exact ResO.tmp rfl | exact ResO.cellBA rfl rfl rfl | exact ResO.cellB1 rfl rfl rfl | exact ResO.cellEA rfl rfl | exact ResO.cellE1 rfl) ?_ ?_)
      | refine Le.bool ?_
      | refine Le.int ?_
      | refine Le.str ?_
    all_goals first
      | rfl
      | contradiction
      | exact dP_T (by unfold inR; decide)
      | (exfalso; omega)
      | skip
    all_goals trace_state
  by_cases h1 : a = -1 ∨ b = -1
  · have e : inR (a * b) ↔ ¬ (a = -9223372036854775808 ∨ b = -9223372036854775808) := by
      unfold inR at *
      rcases h1 with h | h <;> subst h
      · rw [Int.neg_mul, Int.one_mul]; omega
      · rw [Int.mul_neg, Int.mul_one]; omega
    have e2 : inR (a * b) → IntKind.i64.wrap (a * b) = prodN a b := fun h => by rw [wrap_i h]; unfold prodN; rw [if_pos h]
    have e3 : ¬ inR (a * b) → 0 = prodN a b := fun h => by unfold prodN; rw [if_neg h]
    refine PC.of_body Tryz.func56 Tryz.ntmps56 rfl rfl rfl ?_
    repeat' first
      | (apply p1 (hd := rfl); case hop => first | (apply D_move; rfl) | (apply D_assign; rfl) | exact D_sc (D_quo rfl rfl (by omega)) rfl | (apply D_pickT; rfl; rfl) | (apply D_pickF; rfl; rfl) | (apply D_int; rfl; rfl; rfl) | (apply D_quo; rfl; rfl; first | omega | ((repeat rw [w64 _ (by omega) (by omega)]); omega) | decide))
      | refine W_seq ?_
      | refine W_region ?_
      | (refine idC ?_; first | refine c1 rfl ?_ | refine c0 rfl ?_ | refine cs rfl (fun _ => ?_) (fun _ => ?_))
      | refine WL_nil ?_
      | (refine idG ?_; first | refine g0t rfl rfl rfl ?_ | refine g0f rfl rfl rfl ?_ | refine g0u rfl rfl rfl ?_ | refine gr rfl rfl ?_ | refine gs rfl rfl (fun _ => ?_) (fun _ => ?_) | refine grn rfl rfl ?_)
      | refine tn ?_
      | refine tr ?_
      | refine br ?_
      | refine bn ?_
      | refine te ?_
      | (refine idB ?_; first | refine bh rfl ?_ | refine bm rfl ?_)
      | refine W_skip ?_
      | refine W_block ?_
      | refine W_exit ?_
      | refine W_ret ?_
      | refine W_label ?_
      | refine W_scope ?_
      | refine sn ?_
      | refine sr ?_
      | refine se ?_
      | (refine idR ?_; first | refine ret2 rfl rfl rfl rfl ?_ ?_ | refine rL2 rfl (by first | exact trivial | exact ⟨rfl, trivial⟩) (by first | exact ResO.tmp rfl | exact ResO.cellBA rfl rfl rfl | exact ResO.cellB1 rfl rfl rfl | exact ResO.cellEA rfl rfl | exact ResO.cellE1 rfl) (by first | exact ResO.tmp rfl | exact ResO.cellBA rfl rfl rfl | exact ResO.cellB1 rfl rfl rfl | exact ResO.cellEA rfl rfl | exact ResO.cellE1 rfl) ?_ ?_)
      | refine Le.bool ?_
      | refine Le.int ?_
      | refine Le.str ?_
    all_goals first
      | contradiction
      | (exfalso; omega)
      | exact dP_T (e.2 (by omega))
      | exact dP_F (fun h => (e.1 h) (by omega))
      | (rw [e2 (e.2 (by omega))]; done)
      | (rw [← e3 (fun h => (e.1 h) (by omega))]; done)
      | skip
    all_goals trace_state
  · have hb0 : b ≠ 0 := by omega
    have q1 : IntKind.i64.wrap (Int.tdiv 9223372036854775807 b) = Int.tdiv 9223372036854775807 b := wrap_i (div_in (by unfold inR; decide) (by unfold badP; omega))
    have q2 : IntKind.i64.wrap (Int.tdiv (-9223372036854775808) b) = Int.tdiv (-9223372036854775808) b := wrap_i (div_in (by unfold inR; decide) (by unfold badP; omega))
    have e := mulc ha hb hb0
    have e2 : inR (a * b) → IntKind.i64.wrap (a * b) = prodN a b := fun h => by rw [wrap_i h]; unfold prodN; rw [if_pos h]
    have e3 : ¬ inR (a * b) → 0 = prodN a b := fun h => by unfold prodN; rw [if_neg h]
    refine PC.of_body Tryz.func56 Tryz.ntmps56 rfl rfl rfl ?_
    repeat' first
      | (apply p1 (hd := rfl); case hop => first | (apply D_move; rfl) | (apply D_assign; rfl) | exact D_sc (D_quo rfl rfl (by omega)) (congrArg _ q1) | exact D_sc (D_quo rfl rfl (by omega)) (congrArg _ q2) | (apply D_pickT; rfl; rfl) | (apply D_pickF; rfl; rfl) | (apply D_int; rfl; rfl; rfl) | (apply D_quo; rfl; rfl; first | omega | ((repeat rw [w64 _ (by omega) (by omega)]); omega) | decide))
      | refine W_seq ?_
      | refine W_region ?_
      | (refine idC ?_; first | refine c1 rfl ?_ | refine c0 rfl ?_ | refine cs rfl (fun _ => ?_) (fun _ => ?_))
      | refine WL_nil ?_
      | (refine idG ?_; first | refine g0t rfl rfl rfl ?_ | refine g0f rfl rfl rfl ?_ | refine g0u rfl rfl rfl ?_ | refine gr rfl rfl ?_ | refine gs rfl rfl (fun _ => ?_) (fun _ => ?_) | refine grn rfl rfl ?_)
      | refine tn ?_
      | refine tr ?_
      | refine br ?_
      | refine bn ?_
      | refine te ?_
      | (refine idB ?_; first | refine bh rfl ?_ | refine bm rfl ?_)
      | refine W_skip ?_
      | refine W_block ?_
      | refine W_exit ?_
      | refine W_ret ?_
      | refine W_label ?_
      | refine W_scope ?_
      | refine sn ?_
      | refine sr ?_
      | refine se ?_
      | (refine idR ?_; first | refine ret2 rfl rfl rfl rfl ?_ ?_ | refine rL2 rfl (by first | exact trivial | exact ⟨rfl, trivial⟩) (by first | exact ResO.tmp rfl | exact ResO.cellBA rfl rfl rfl | exact ResO.cellB1 rfl rfl rfl | exact ResO.cellEA rfl rfl | exact ResO.cellE1 rfl) (by first | exact ResO.tmp rfl | exact ResO.cellBA rfl rfl rfl | exact ResO.cellB1 rfl rfl rfl | exact ResO.cellEA rfl rfl | exact ResO.cellE1 rfl) ?_ ?_)
      | refine Le.bool ?_
      | refine Le.int ?_
      | refine Le.str ?_
    all_goals first
      | contradiction
      | (exfalso; omega)
      | exact dP_F (e.2 (by omega))
      | (rw [← e3 (e.2 (by omega))]; done)
      | exact dP_T (Classical.byContradiction fun h => by have := e.1 h; omega)
      | (rw [e2 (Classical.byContradiction fun h => by have := e.1 h; omega)]; done)
      | skip
    all_goals trace_state
open Classical in
noncomputable def rekN (s : List UInt8) (a b : Int) : Int :=
  if s = [43] then sumN a b else if s = [45] then (if b = -9223372036854775808 then IntKind.i64.wrap (a - b) else sumN a (-b)) else if s = [42] then prodN a b
  else if badP a b then 0 else if s = [47] then a.tdiv b else a.tmod b
set_option maxHeartbeats 8000000 in
theorem reckon1_pc [GlobF Tryz.prog] (s : List UInt8) (a b : Int) (ha : inR a) (hb : inR b) : PC Tryz.prog 32 [str s, .sc (.int .i64 a), .sc (.int .i64 b)] (.tu [.sc (.int .i64 (rekN s a b)), .sc (.bool (dP (recP s a b)))]) := by
  have qq1 := sum1_pc a b ha hb
  have qq2 := prod1_pc a b ha hb
  by_cases h0 : b = -9223372036854775808
  · refine PC.of_body Tryz.func32 Tryz.ntmps32 rfl rfl rfl ?_
    repeat' first
      | (apply p1 (hd := rfl); case hop => first | (apply D_move; rfl) | (apply D_assign; rfl) | (apply D_pc qq1; rfl; exact .same rfl (.same rfl .nil)) | (apply D_pc qq2; rfl; exact .same rfl (.same rfl .nil)) | exact D_sc (D_rem rfl rfl (by assumption)) rfl | exact D_sc (D_quo rfl rfl (by assumption)) rfl | (apply D_pickT; rfl; rfl) | (apply D_pickF; rfl; rfl) | (apply D_int; rfl; rfl; rfl) | (apply D_str; rfl; rfl; rfl) | (apply D_ext; rfl; rfl) | (apply D_neg; rfl) | (apply D_quo; rfl; rfl; first | omega | ((repeat rw [w64 _ (by omega) (by omega)]); omega) | decide) | (apply D_rem; rfl; rfl; first | omega | ((repeat rw [w64 _ (by omega) (by omega)]); omega) | decide))
      | refine W_seq ?_
      | refine W_region ?_
      | (refine idC ?_; first | refine c1 rfl ?_ | refine c0 rfl ?_ | refine cs rfl (fun _ => ?_) (fun _ => ?_))
      | refine WL_nil ?_
      | (refine idG ?_; first | refine g0t rfl rfl rfl ?_ | refine g0f rfl rfl rfl ?_ | refine g0u rfl rfl rfl ?_ | refine gr rfl rfl ?_ | refine gs rfl rfl (fun _ => ?_) (fun _ => ?_) | refine grn rfl rfl ?_)
      | refine tn ?_
      | refine tr ?_
      | refine br ?_
      | refine bn ?_
      | refine te ?_
      | (refine idB ?_; first | refine bh rfl ?_ | refine bm rfl ?_)
      | refine W_skip ?_
      | refine W_block ?_
      | refine W_exit ?_
      | refine W_ret ?_
      | refine W_label ?_
      | refine W_scope ?_
      | refine sn ?_
      | refine sr ?_
      | refine se ?_
      | (refine idR ?_; first | refine ret2 rfl rfl rfl rfl ?_ ?_ | refine rL2 rfl (by first | exact trivial | exact ⟨rfl, trivial⟩) (by first | exact ResO.tmp rfl | exact ResO.cellBA rfl rfl rfl | exact ResO.cellB1 rfl rfl rfl | exact ResO.cellEA rfl rfl | exact ResO.cellE1 rfl) (by first | exact ResO.tmp rfl | exact ResO.cellBA rfl rfl rfl | exact ResO.cellB1 rfl rfl rfl | exact ResO.cellEA rfl rfl | exact ResO.cellE1 rfl) ?_ ?_)
      | refine Le.bool ?_
      | refine Le.int ?_
      | refine Le.str ?_
    all_goals first
      | contradiction
      | (simp [rekN, *]; done)
      | (simp [recP, *]; done)
      | (refine dP_eq ?_; subst_vars; simp [recP, inR, iLt_t] at *; omega)
      | exact dP_F (by rw [recP_d (by assumption) (by assumption) (by assumption)]; exact fun h => h (.inl (by assumption)))
      | exact dP_F (by rw [recP_d (by assumption) (by assumption) (by assumption)]; exact fun h => h (.inr ⟨by assumption, by assumption⟩))
      | exact dP_T (by rw [recP_d (by assumption) (by assumption) (by assumption)]; unfold badP; omega)
      | (unfold rekN; rw [if_neg (by assumption), if_neg (by assumption), if_neg (by assumption), if_neg (by unfold badP; omega), if_pos (by assumption), wrap_i (div_in ha (by unfold badP; omega))]; done)
      | (unfold rekN; rw [if_neg (by assumption), if_neg (by assumption), if_neg (by assumption), if_neg (by unfold badP; omega), if_neg (by assumption)]; done)
      | (unfold rekN; rw [if_neg (by assumption), if_neg (by assumption), if_neg (by assumption), if_pos (by unfold badP; omega)]; done)
      | skip
    all_goals trace_state
  · have hnb : IntKind.i64.wrap (0 - b) = -b := by unfold inR at hb; rw [w64 _ (by omega) (by omega)]; omega
    have qq3 := sum1_pc a (-b) ha (by unfold inR at *; omega)
    refine PC.of_body Tryz.func32 Tryz.ntmps32 rfl rfl rfl ?_
    repeat' first
      | (apply p1 (hd := rfl); case hop => first | (apply D_move; rfl) | (apply D_assign; rfl) | (apply D_pc qq1; rfl; exact .same rfl (.same rfl .nil)) | (apply D_pc qq2; rfl; exact .same rfl (.same rfl .nil)) | (apply D_pc qq3; rfl; exact .same rfl (.same rfl .nil)) | exact D_sc (D_neg rfl) (congrArg _ hnb) | exact D_sc (D_rem rfl rfl (by assumption)) rfl | exact D_sc (D_quo rfl rfl (by assumption)) rfl | (apply D_pickT; rfl; rfl) | (apply D_pickF; rfl; rfl) | (apply D_int; rfl; rfl; rfl) | (apply D_str; rfl; rfl; rfl) | (apply D_ext; rfl; rfl) | (apply D_neg; rfl) | (apply D_quo; rfl; rfl; first | omega | ((repeat rw [w64 _ (by omega) (by omega)]); omega) | decide) | (apply D_rem; rfl; rfl; first | omega | ((repeat rw [w64 _ (by omega) (by omega)]); omega) | decide))
      | refine W_seq ?_
      | refine W_region ?_
      | (refine idC ?_; first | refine c1 rfl ?_ | refine c0 rfl ?_ | refine cs rfl (fun _ => ?_) (fun _ => ?_))
      | refine WL_nil ?_
      | (refine idG ?_; first | refine g0t rfl rfl rfl ?_ | refine g0f rfl rfl rfl ?_ | refine g0u rfl rfl rfl ?_ | refine gr rfl rfl ?_ | refine gs rfl rfl (fun _ => ?_) (fun _ => ?_) | refine grn rfl rfl ?_)
      | refine tn ?_
      | refine tr ?_
      | refine br ?_
      | refine bn ?_
      | refine te ?_
      | (refine idB ?_; first | refine bh rfl ?_ | refine bm rfl ?_)
      | refine W_skip ?_
      | refine W_block ?_
      | refine W_exit ?_
      | refine W_ret ?_
      | refine W_label ?_
      | refine W_scope ?_
      | refine sn ?_
      | refine sr ?_
      | refine se ?_
      | (refine idR ?_; first | refine ret2 rfl rfl rfl rfl ?_ ?_ | refine rL2 rfl (by first | exact trivial | exact ⟨rfl, trivial⟩) (by first | exact ResO.tmp rfl | exact ResO.cellBA rfl rfl rfl | exact ResO.cellB1 rfl rfl rfl | exact ResO.cellEA rfl rfl | exact ResO.cellE1 rfl) (by first | exact ResO.tmp rfl | exact ResO.cellBA rfl rfl rfl | exact ResO.cellB1 rfl rfl rfl | exact ResO.cellEA rfl rfl | exact ResO.cellE1 rfl) ?_ ?_)
      | refine Le.bool ?_
      | refine Le.int ?_
      | refine Le.str ?_
    all_goals first
      | contradiction
      | (simp [rekN, *]; done)
      | (simp [recP, *]; done)
      | (refine dP_eq ?_; subst_vars; simp [recP, dP_t, Int.sub_eq_add_neg]; done)
      | exact dP_F (by rw [recP_d (by assumption) (by assumption) (by assumption)]; exact fun h => h (.inl (by assumption)))
      | exact dP_F (by rw [recP_d (by assumption) (by assumption) (by assumption)]; exact fun h => h (.inr ⟨by assumption, by assumption⟩))
      | exact dP_T (by rw [recP_d (by assumption) (by assumption) (by assumption)]; unfold badP; omega)
      | (unfold rekN; rw [if_neg (by assumption), if_neg (by assumption), if_neg (by assumption), if_neg (by unfold badP; omega), if_pos (by assumption), wrap_i (div_in ha (by unfold badP; omega))]; done)
      | (unfold rekN; rw [if_neg (by assumption), if_neg (by assumption), if_neg (by assumption), if_neg (by unfold badP; omega), if_neg (by assumption)]; done)
      | (unfold rekN; rw [if_neg (by assumption), if_neg (by assumption), if_neg (by assumption), if_pos (by unfold badP; omega)]; done)
      | skip
    all_goals trace_state
theorem rek_ok {s : List UInt8} {a b : Int} (ha : inR a) (hb : inR b) (h : recP s a b) : rekN s a b = recN s a b := by
  unfold recP at h; unfold rekN recN
  by_cases g1 : s = [43]
  · rw [if_pos g1] at h ⊢; rw [if_pos g1, wrap_i h]; unfold sumN; rw [if_pos h]
  rw [if_neg g1] at h ⊢; rw [if_neg g1]
  by_cases g2 : s = [45]
  · rw [if_pos g2] at h ⊢; rw [if_pos g2]
    split
    · rfl
    · have h' : inR (a + -b) := by rwa [← Int.sub_eq_add_neg]
      rw [wrap_i h]; unfold sumN; rw [if_pos h', Int.sub_eq_add_neg]
  rw [if_neg g2] at h ⊢; rw [if_neg g2]
  by_cases g3 : s = [42]
  · rw [if_pos g3] at h ⊢; rw [if_pos g3, wrap_i h]; unfold prodN; rw [if_pos h]
  rw [if_neg g3] at h ⊢; rw [if_neg g3]
end Go.Proofs
