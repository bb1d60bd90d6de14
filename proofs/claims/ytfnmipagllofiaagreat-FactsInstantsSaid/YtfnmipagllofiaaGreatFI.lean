/- The statement FactsInstants. No condition. -/
import Derived.Test.YtfnmipagllofiaaGreatFF9
import Derived.Test.YtfnmipagllofiaaGreatFOpn
import Derived.Test.YtfnmipagllofiaaGreatRows
import Derived.HandedShaped
import Derived.Test.YtfnmipagllofiaaGreatOpen
namespace Go.Proofs.YtfnmipagllofiaaGreat
open Go.ChangeShapes Go.WideShapes Go.ChangeAt Go.RowKit Go.AL

theorem Tryz.own : ownKnob Tryz.prog.godebug = none := by kernel_rfl
theorem Tryz.laidOut : laidOutB Tryz.prog = true := by kernel_rfl

set_option maxRecDepth 100000 in
theorem factsInstants_lifted (os : Os) (started : os.Started) (H : Type) (enc : TypeId × Value → H) :
    ReturnsInHanded {} Tryz.checked os 4 .any (Rows.factsInstantsSpec.pre6 enc Tryz.prog Tryz.f4 Rows.factsInstantsRow.domain false) (Rows.factsInstantsSpec.post enc Tryz.prog Tryz.f4 false true false false) := by
  refine returnsInHanded_of_change_shaped (C := Tryz.checked) Tryz.own started (by kernel_rfl) Tryz.func4
    (ChangeSpec.witness6 (enc := enc) (C := Tryz.checked) false ⟨#[], #[.slice none 0 0, .int .i64 0, .int .i64 0], []⟩ 8 (by kernel_rfl) (by kernel_rfl) (by kernel_rfl) (by kernel_rfl)) ?_
  intro W base args ds gs before hval0 hW hcnd hwt hsh _
  have hval : ∀ (j : Nat) t v, Tryz.f4.params[j]? = some t → args[j]? = some v → Value.okWide Tryz.prog W .any base t v := hval0
  have hW' := hW
  obtain ⟨p, q, hA0, hV, rfl, hfz, hnd⟩ := hW
  have hA : DataW.TrodAll enc Tryz.prog W 0 (fun _ => true) true Tryz.f4.params.toList args.toList ds p := hA0
  rw [Tryz.params4] at hA hval
  obtain ⟨v0, v1, v2, d0, d1, d2, p0, p1, p2, rfl, rfl, rfl, h0, h1, h2⟩ := trodAll_three hA
  obtain ⟨rfl, rfl⟩ := trodVars_none hV
  have l0 : ∀ x ∈ p0, x.block < W.heap.size := by obtain ⟨fuel, hf⟩ := h0; exact DataW.trod_lt _ _ _ _ hf
  obtain ⟨a0, c0, k0⟩ := Opn.arg h0
  obtain ⟨s0, t0, u0, rfl⟩ := okWide_slice Tryz.underlying31 (hval 0 31 v0 rfl rfl)
  have e0 := one_arg rfl c0
  have l1 : ∀ x ∈ p1, x.block < W.heap.size := by obtain ⟨fuel, hf⟩ := h1; exact DataW.trod_lt _ _ _ _ hf
  obtain ⟨a1, c1, k1⟩ := Opn.arg h1
  obtain ⟨s1, rfl⟩ := okWide_int (k := .i64) Tryz.underlying3 (hval 1 3 v1 rfl rfl)
  have e1 := one_arg rfl c1
  have l2 : ∀ x ∈ p2, x.block < W.heap.size := by obtain ⟨fuel, hf⟩ := h2; exact DataW.trod_lt _ _ _ _ hf
  obtain ⟨a2, c2, k2⟩ := Opn.arg h2
  obtain ⟨s2, rfl⟩ := okWide_int (k := .i64) Tryz.underlying2 (hval 2 2 v2 rfl rfl)
  have e2 := one_arg rfl c2
  simp only [List.append_nil] at hW'
  letI : GlobF Tryz.prog := ⟨fun _ _ => none, fun _ => none⟩
  refine ((factsInst_pc a0 a1 a2 (i64_wf0 k1) (sized_argM Tryz.underlying31 (by kernel_rfl) h0 e0 hwt 0 rfl rfl) (fun d h => (k0.2 d h).sl) (fun d h => (k0.2 d h).rg)).law (fun b o u e => by cases e) (ConcL.cons e0 (.cons e1 (.cons e2 (.nil _))))).mono fun e W' ⟨he, hn⟩ => ?_
  subst he
  exact ⟨_, rfl, ⟨_, _, _, [], _, [], hW', trodAll_mk1 (shut_bool Tryz.underlying4 true), trodAll_mk3 (Below.trod Tryz.laidOut (by kernel_rfl) (of_decide_eq_true (by kernel_rfl)) h0 hn l0) (Below.trod Tryz.laidOut (by kernel_rfl) (of_decide_eq_true (by kernel_rfl)) h1 hn l1) (Below.trod Tryz.laidOut (by kernel_rfl) (of_decide_eq_true (by kernel_rfl)) h2 hn l2), rfl, hn.frame _, fun h => by cases h⟩⟩

/-- THE STATEMENT: FactsInstants. -/
theorem factsInstants_holds : Rows.FactsInstantsSaid :=
  OpenClaim.holds_of_wide 4 Tryz.f4 rfl rfl rfl rfl rfl rfl rfl ⟨rfl, rfl, rfl, rfl, rfl⟩ rfl rfl rfl rfl rfl (by kernel_rfl) Tryz.func4 (by kernel_rfl)
    (of_decide_eq_true (by kernel_rfl)) (by unfold Func.isWrapper; first | (rw [if_pos (by decide +kernel)]; kernel_rfl) | (rw [if_neg (by decide +kernel)]; exact ⟨rfl, rfl⟩))
    (fun os started H enc _ => factsInstants_lifted os started H enc)
end Go.Proofs.YtfnmipagllofiaaGreat
