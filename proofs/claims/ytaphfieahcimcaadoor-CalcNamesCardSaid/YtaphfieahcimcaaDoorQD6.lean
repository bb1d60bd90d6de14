/- Contracts of the statements: CalcAnswers, CalcOrder. -/
import Derived.Test.YtaphfieahcimcaaDoorQD5
namespace Go.Proofs
open Go.AL
attribute [local irreducible] Go.AL.W Go.AL.WL Go.AL.WD Go.AL.POp Go.AL.PPOp Go.AL.POpS Go.AL.PC Go.AL.AC Go.AL.YW Go.AL.Ret Go.AL.Le Go.AL.thn Go.AL.inBlk Go.AL.scp

theorem right_150 {s : List UInt8} {l : List Val} : rightI s l false = 150 ↔ (knownK s = false ∨ knownP s = true ∨ knownI s ≠ l.length) := by
  unfold rightI
  by_cases h : knownK s = false ∨ knownP s ≠ false ∨ knownI s ≠ l.length
  · rw [if_pos h]; simp only [ne_eq, Bool.not_eq_false] at h; exact ⟨fun _ => h, fun _ => rfl⟩
  · rw [if_neg h]; simp only [ne_eq, Bool.not_eq_false] at h
    constructor
    · intro e; split at e <;> cases e
    · intro e; exact absurd e h
theorem fnV_lt {s : List UInt8} {l : List Val} (hs : ∀ v, v ∈ l → v.s.length < 134217728 ∧ inR v.n) : (fnV s l).s.length < 9223372036854775808 := by
  match l, hs with
  | [], _ => show 0 < _; decide
  | [a], hs => exact oneV_lt (hs a (by simp)).1 (hs a (by simp)).2
  | [a, b], hs => exact twoV_lt (hs a (by simp)).1 (hs b (by simp)).1
  | [a, b, c], hs => exact cutV_lt (hs a (by simp)).1
  | a :: b :: c :: d :: l, _ => show 0 < _; decide
theorem doV_lt {s : List UInt8} {l : List Val} (hs : ∀ v, v ∈ l → v.s.length < 134217728 ∧ inR v.n) : (doV s l).s.length < 9223372036854775808 := by
  unfold doV; split
  · exact fnV_lt hs
  · show 0 < _; decide
theorem doV_may {s : List UInt8} {l : List Val} (h : doP s l) : MayP (doV s l) := by unfold doV; rw [if_pos h]; exact h.2.2
theorem great_f {s : List UInt8} {l : List Val} (h : ¬ (100 < s.length ∨ 10 < l.length ∨ ∃ v, v ∈ l ∧ 1100 < v.s.length)) : s.length ≤ 100 ∧ l.length ≤ 10 ∧ ∀ v, v ∈ l → v.s.length ≤ 1100 :=
  ⟨by omega, by omega, fun v hv => by
    rcases Nat.lt_or_ge 1100 v.s.length with h1 | h1
    · exact absurd (.inr (.inr ⟨v, hv, h1⟩)) h
    · exact h1⟩
set_option maxHeartbeats 16000000 in
theorem calcAnswers_pc [GlobF Tryd.prog] (hg : MaxLenOK) (hp : PowOK) (he : ErrsOK) (s : List UInt8) (l : List Val) (hv : ∀ v, v ∈ l → inR v.n) : PC Tryd.prog 5 [str s, .sl none 3 (l.map vC)] (.sc (.bool true)) := by
  have ha := alive_pc hg hp he
  by_cases hgr : 100 < s.length ∨ 10 < l.length ∨ ∃ v, v ∈ l ∧ 1100 < v.s.length
  · have e := dP_T hgr
    have hgp := great_pc s l
    rw [← e] at hgp
    refine PC.of_body Tryd.func5 Tryd.ntmps5 rfl rfl rfl ?_
    repeat' first
      | (apply p1 (hd := rfl); case hop => first | (apply D_move; rfl) | (apply D_assign; rfl) | (apply D_pc ha; rfl; exact .nil) | (apply D_pc hgp; rfl; exact .same rfl (.same rfl .nil)) | (apply D_load1; rfl) | (apply D_pickT; rfl; rfl) | (apply D_pickF; rfl; rfl) | (apply D_int; rfl; rfl; rfl) | (apply D_lenM; rfl) | (apply D_len_sl; rfl) | (apply D_ext; rfl; rfl) | (apply D_not; rfl) | (apply D_loadW; rfl; rfl) | (apply D_loadA; rfl; rfl) | (apply D_len_nil; rfl) | exact D_build rfl | exact D_buildA rfl | (apply D_lenR; rfl) | exact D_eqA rfl rfl rfl rfl rfl rfl rfl | exact D_neA rfl rfl rfl rfl rfl rfl rfl)
      | refine W_seq ?_
      | refine W_region ?_
      | (refine idC ?_; first | refine c1 rfl ?_ | refine c0 rfl ?_ | refine cs rfl (fun _ => ?_) (fun _ => ?_))
      | refine WL_nil ?_
      | (refine idG ?_; first | refine g0t rfl rfl rfl ?_ | refine g0f rfl rfl rfl ?_ | refine g0u rfl rfl rfl ?_ | refine gr rfl rfl ?_ | refine gs rfl rfl (fun _ => ?_) (fun _ => ?_) | refine grn rfl rfl ?_)
      | refine tn ?_
      | refine tr ?_
      | refine br ?_
      | refine bn ?_
      | refine te ?_
      | (refine idB ?_; first | refine bh rfl ?_ | refine bm rfl ?_)
      | refine W_skip ?_
      | refine W_block ?_
      | refine W_exit ?_
      | refine W_ret ?_
      | refine W_label ?_
      | refine W_scope ?_
      | refine sn ?_
      | refine sr ?_
      | refine se ?_
      | (refine idR ?_; first | refine ret1 rfl rfl rfl ?_ | refine rL1 rfl (by first | exact trivial | exact ⟨rfl, trivial⟩) (by first | exact ResO.tmp rfl | exact ResO.cellBA rfl rfl rfl | exact ResO.cellB1 rfl rfl rfl | exact ResO.cellEA rfl rfl | exact ResO.cellE1 rfl) ?_)
      | (refine idLd ?_; first | refine p1L (D_loadB1 rfl rfl rfl) rfl ?_ | refine p1L (D_loadBA rfl rfl rfl) rfl ?_ | refine p1L (D_loadB1 rfl (by (repeat first | assumption | exact get_last | (refine get_last2 ?_; focus (simp; done)) | apply get_set | apply get_app | (apply get_ne; focus omega) | (apply get_ne; focus (simp only [List.length_set, List.length_append, List.length_cons, List.length_nil]; omega))); done) (by rfl)) rfl ?_ | refine p1L (D_loadBA rfl (by (repeat first | assumption | exact get_last | (refine get_last2 ?_; focus (simp; done)) | apply get_set | apply get_app | (apply get_ne; focus omega) | (apply get_ne; focus (simp only [List.length_set, List.length_append, List.length_cons, List.length_nil]; omega))); done) (by rfl)) rfl ?_)
      | (refine idA ?_; first | refine m_var rfl rfl rfl rfl rfl rfl rfl ?_ | refine m_alloc rfl ?_)
      | (refine idS ?_; first | refine pS (S_store rfl rfl rfl rfl rfl rfl rfl) ?_ | refine pS (S_store rfl rfl rfl (by (repeat first | assumption | exact get_last | (refine get_last2 ?_; focus (simp; done)) | apply get_set | apply get_app | (apply get_ne; focus omega) | (apply get_ne; focus (simp only [List.length_set, List.length_append, List.length_cons, List.length_nil]; omega))); done) (by rfl) (by rfl) (by rfl)) ?_)
      | refine Le.bool ?_
      | refine Le.int ?_
      | refine Le.str ?_
    all_goals first | rfl | contradiction
  · have hb := great_f hgr
    have hl : l.length < 4611686018427387904 := by omega
    have hgp := great_pc s l
    rw [← dP_F hgr] at hgp
    have hs : ∀ v, v ∈ l → v.s.length < 134217728 ∧ inR v.n := fun v h => ⟨by have := hb.2.2 v h; omega, hv v h⟩
    have hd := do_pc hp he s l hl hs
    have hc := check_pc (doV s l) (doV_lt hs)
    refine PC.of_body Tryd.func5 Tryd.ntmps5 rfl rfl rfl ?_
    repeat' first
      | (apply p1 (hd := rfl); case hop => first | (apply D_move; rfl) | (apply D_assign; rfl) | (apply D_pc ha; rfl; exact .nil) | (apply D_pc hgp; rfl; exact .same rfl (.same rfl .nil)) | (apply D_pc hd; rfl; exact .same rfl (.same rfl .nil)) | (apply D_pc (known_pc s); rfl; exact .same rfl .nil) | (apply D_pc hc; rfl; exact .same rfl .nil) | (apply D_load1; rfl) | (apply D_pickT; rfl; rfl) | (apply D_pickF; rfl; rfl) | (apply D_int; rfl; rfl; rfl) | (apply D_lenM; rfl) | (apply D_len_sl; rfl) | (apply D_ext; rfl; rfl) | (apply D_not; rfl) | (apply D_loadW; rfl; rfl) | (apply D_loadA; rfl; rfl) | (apply D_len_nil; rfl) | exact D_build rfl | exact D_buildA rfl | (apply D_lenR; rfl) | exact D_eqA rfl rfl rfl rfl rfl rfl rfl | exact D_neA rfl rfl rfl rfl rfl rfl rfl)
      | refine W_seq ?_
      | refine W_region ?_
      | (refine idC ?_; first | refine c1 rfl ?_ | refine c0 rfl ?_ | refine cs rfl (fun _ => ?_) (fun _ => ?_))
      | refine WL_nil ?_
      | (refine idG ?_; first | refine g0t rfl rfl rfl ?_ | refine g0f rfl rfl rfl ?_ | refine g0u rfl rfl rfl ?_ | refine gr rfl rfl ?_ | refine gs rfl rfl (fun _ => ?_) (fun _ => ?_) | refine grn rfl rfl ?_)
      | refine tn ?_
      | refine tr ?_
      | refine br ?_
      | refine bn ?_
      | refine te ?_
      | (refine idB ?_; first | refine bh rfl ?_ | refine bm rfl ?_)
      | refine W_skip ?_
      | refine W_block ?_
      | refine W_exit ?_
      | refine W_ret ?_
      | refine W_label ?_
      | refine W_scope ?_
      | refine sn ?_
      | refine sr ?_
      | refine se ?_
      | (refine idR ?_; first | refine ret1 rfl rfl rfl ?_ | refine rL1 rfl (by first | exact trivial | exact ⟨rfl, trivial⟩) (by first | exact ResO.tmp rfl | exact ResO.cellBA rfl rfl rfl | exact ResO.cellB1 rfl rfl rfl | exact ResO.cellEA rfl rfl | exact ResO.cellE1 rfl) ?_)
      | (refine idLd ?_; first | refine p1L (D_loadB1 rfl rfl rfl) rfl ?_ | refine p1L (D_loadBA rfl rfl rfl) rfl ?_ | refine p1L (D_loadB1 rfl (by (repeat first | assumption | exact get_last | (refine get_last2 ?_; focus (simp; done)) | apply get_set | apply get_app | (apply get_ne; focus omega) | (apply get_ne; focus (simp only [List.length_set, List.length_append, List.length_cons, List.length_nil]; omega))); done) (by rfl)) rfl ?_ | refine p1L (D_loadBA rfl (by (repeat first | assumption | exact get_last | (refine get_last2 ?_; focus (simp; done)) | apply get_set | apply get_app | (apply get_ne; focus omega) | (apply get_ne; focus (simp only [List.length_set, List.length_append, List.length_cons, List.length_nil]; omega))); done) (by rfl)) rfl ?_)
      | (refine idA ?_; first | refine m_var rfl rfl rfl rfl rfl rfl rfl ?_ | refine m_alloc rfl ?_)
      | (refine idS ?_; first | refine pS (S_store rfl rfl rfl rfl rfl rfl rfl) ?_ | refine pS (S_store rfl rfl rfl (by (repeat first | assumption | exact get_last | (refine get_last2 ?_; focus (simp; done)) | apply get_set | apply get_app | (apply get_ne; focus omega) | (apply get_ne; focus (simp only [List.length_set, List.length_append, List.length_cons, List.length_nil]; omega))); done) (by rfl) (by rfl) (by rfl)) ?_)
      | refine Le.bool ?_
      | refine Le.int ?_
      | refine Le.str ?_
    all_goals first
      | rfl
      | contradiction
      | (exfalso; have := (by assumption : doP s l).1; omega)
      | exact absurd (right_150.2 (.inr (.inr (by assumption)))) (by assumption)
      | exact absurd (right_150.2 (.inr (.inl (by assumption)))) (by assumption)
      | exact absurd (right_150.2 (.inl (by assumption))) (by assumption)
      | (rw [bNot_t, iEq_f]; rcases right_150.1 (by assumption) with a | a | a <;> simp_all; done)
      | (rw [iEq_t]; exact tE_t (doV_may (by assumption)))
      | (exfalso; rename_i h1 h2 h3; rw [doV_z h1] at h2; exact h2 rfl)

/-! CalcOrder. -/
theorem twoV_mn {a b : Val} : twoV mnL a b = if cmpV a b ≤ 0 then a else b := by unfold twoV; rw [if_pos rfl]
theorem twoV_mx {a b : Val} : twoV mxL a b = if cmpV a b ≤ 0 then b else a := by unfold twoV; rw [if_neg (by decide), if_pos rfl]
theorem do_mn {a b : Val} (ha : MayP a) (hb : MayP b) : doP mnL [a, b] ∧ doV mnL [a, b] = (if cmpV a b ≤ 0 then a else b) := by
  have h : doP mnL [a, b] := ⟨right_two2 (by decide) ha hb, trivial, by show MayP (twoV mnL a b); rw [twoV_mn]; split <;> assumption⟩
  exact ⟨h, by unfold doV; rw [if_pos h]; exact twoV_mn⟩
theorem do_mx {a b : Val} (ha : MayP a) (hb : MayP b) : doP mxL [a, b] ∧ doV mxL [a, b] = (if cmpV a b ≤ 0 then b else a) := by
  have h : doP mxL [a, b] := ⟨right_two2 (by decide) ha hb, trivial, by show MayP (twoV mxL a b); rw [twoV_mx]; split <;> assumption⟩
  exact ⟨h, by unfold doV; rw [if_pos h]; exact twoV_mx⟩
theorem may_len {v : Val} (h : MayP v) : v.s.length ≤ 1000 := by
  unfold MayP at h
  rcases h with ⟨_, _, _, h⟩ | ⟨_, h⟩ | ⟨_, h, _⟩ | ⟨_, _, h⟩ | ⟨_, _, h⟩
  · rw [h]; decide
  · rw [h]; decide
  · rw [h]; decide
  · exact h
  · have := h.2.1; omega
end Go.Proofs
