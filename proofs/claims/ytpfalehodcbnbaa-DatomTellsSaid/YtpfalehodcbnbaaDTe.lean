/- The statement DatomTells. No condition. -/
import Derived.Test.YtpfalehodcbnbaaAE11
import Derived.Test.YtpfalehodcbnbaaAOpn
import Derived.Test.YtpfalehodcbnbaaRows
import Derived.HandedShaped
import Derived.Test.YtpfalehodcbnbaaOpen
namespace Go.Proofs.Ytpfalehodcbnbaa
open Go.ChangeShapes Go.WideShapes Go.ChangeAt Go.RowKit Go.AL

theorem Try.own : ownKnob Try.prog.godebug = none := by kernel_rfl
theorem Try.laidOut : laidOutB Try.prog = true := by kernel_rfl

set_option maxRecDepth 100000 in
theorem datomTells_lifted (os : Os) (started : os.Started) (H : Type) (enc : TypeId × Value → H) :
    ReturnsInHanded {} Try.checked os 8 .any (Rows.datomTellsSpec.pre6 enc Try.prog Try.f8 Rows.datomTellsRow.domain false) (Rows.datomTellsSpec.post enc Try.prog Try.f8 false true false false) := by
  refine returnsInHanded_of_change_shaped (C := Try.checked) Try.own started (by kernel_rfl) Try.func8
    (ChangeSpec.witness6 (enc := enc) (C := Try.checked) false ⟨#[], #[.int .i64 0, .agg #[.int .i64 0, .int .i64 0, .int .i64 0, .int .i64 0, .string ⟨#[]⟩, .int .i64 0, .bool false, .int .i64 0, .int .i64 0], .agg #[.int .i64 0, .int .i64 0, .int .i64 0, .int .i64 0, .string ⟨#[]⟩, .int .i64 0, .bool false, .int .i64 0, .int .i64 0], .slice none 0 0], []⟩ 8 (by kernel_rfl) (by kernel_rfl) (by kernel_rfl) (by kernel_rfl)) ?_
  intro W base args ds gs before hval0 hW hcnd _ hsh _
  have hval : ∀ (j : Nat) t v, Try.f8.params[j]? = some t → args[j]? = some v → Value.okWide Try.prog W .any base t v := hval0
  have hW' := hW
  obtain ⟨p, q, hA0, hV, rfl, hfz, hnd⟩ := hW
  have hA : DataW.TrodAll enc Try.prog W 0 (fun _ => true) true Try.f8.params.toList args.toList ds p := hA0
  rw [Try.params8] at hA hval
  obtain ⟨v0, v1, v2, v3, d0, d1, d2, d3, p0, p1, p2, p3, rfl, rfl, rfl, h0, h1, h2, h3⟩ := trodAll_four hA
  obtain ⟨rfl, rfl⟩ := trodVars_none hV
  have l0 : ∀ x ∈ p0, x.block < W.heap.size := by obtain ⟨fuel, hf⟩ := h0; exact DataW.trod_lt _ _ _ _ hf
  obtain ⟨a0, c0, k0⟩ := Opn.arg h0
  obtain ⟨s0, rfl⟩ := okWide_int (k := .i64) Try.underlying3 (hval 0 3 v0 rfl rfl)
  have e0 := one_arg rfl c0
  have l1 : ∀ x ∈ p1, x.block < W.heap.size := by obtain ⟨fuel, hf⟩ := h1; exact DataW.trod_lt _ _ _ _ hf
  obtain ⟨a1, c1, k1⟩ := Opn.arg h1
  obtain ⟨s1, rfl, _⟩ := okWide_struct Try.underlying35 (hval 1 35 v1 rfl rfl)
  have e1 := agg_arg c1
  have l2 : ∀ x ∈ p2, x.block < W.heap.size := by obtain ⟨fuel, hf⟩ := h2; exact DataW.trod_lt _ _ _ _ hf
  obtain ⟨a2, c2, k2⟩ := Opn.arg h2
  obtain ⟨s2, rfl, _⟩ := okWide_struct Try.underlying35 (hval 2 35 v2 rfl rfl)
  have e2 := agg_arg c2
  have l3 : ∀ x ∈ p3, x.block < W.heap.size := by obtain ⟨fuel, hf⟩ := h3; exact DataW.trod_lt _ _ _ _ hf
  obtain ⟨a3, c3, k3⟩ := Opn.arg h3
  obtain ⟨s3, t3, u3, rfl⟩ := okWide_slice Try.underlying38 (hval 3 38 v3 rfl rfl)
  have e3 := one_arg rfl c3
  simp only [List.append_nil] at hW'
  letI : GlobF Try.prog := ⟨fun _ _ => none⟩
  refine ((datomTells_pc a0 a1 a2 a3 (datS_of k1)).law (fun b o u e => by cases e) (ConcL.cons e0 (.cons e1 (.cons e2 (.cons e3 (.nil _)))))).mono fun e W' ⟨he, hn⟩ => ?_
  subst he
  exact ⟨_, rfl, ⟨_, _, _, [], _, [], hW', trodAll_mk1 (shut_bool Try.underlying4 true), trodAll_mk4 (Below.trod Try.laidOut (by kernel_rfl) (of_decide_eq_true (by kernel_rfl)) h0 hn l0) (Below.trod Try.laidOut (by kernel_rfl) (of_decide_eq_true (by kernel_rfl)) h1 hn l1) (Below.trod Try.laidOut (by kernel_rfl) (of_decide_eq_true (by kernel_rfl)) h2 hn l2) (Below.trod Try.laidOut (by kernel_rfl) (of_decide_eq_true (by kernel_rfl)) h3 hn l3), rfl, hn.frame _, fun h => by cases h⟩⟩

/-- THE STATEMENT: DatomTells. -/
theorem datomTells_holds : Rows.DatomTellsSaid :=
  OpenClaim.holds_of_wide 8 Try.f8 rfl rfl rfl rfl rfl rfl rfl ⟨rfl, rfl, rfl, rfl, rfl⟩ rfl rfl rfl rfl rfl (by kernel_rfl) Try.func8 (by kernel_rfl)
    (of_decide_eq_true (by kernel_rfl)) (by unfold Func.isWrapper; first | (rw [if_pos (by decide +kernel)]; kernel_rfl) | (rw [if_neg (by decide +kernel)]; exact ⟨rfl, rfl⟩))
    (fun os started H enc _ => datomTells_lifted os started H enc)
end Go.Proofs.Ytpfalehodcbnbaa
