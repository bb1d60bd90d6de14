/- The statement ValueSorts. No condition. -/
import Derived.Test.YtpfalehodcbnbaaAS2
import Derived.Test.YtpfalehodcbnbaaAOpn
import Derived.Test.YtpfalehodcbnbaaRows
import Derived.HandedShaped
import Derived.Test.YtpfalehodcbnbaaOpen
namespace Go.Proofs.Ytpfalehodcbnbaa
open Go.ChangeShapes Go.WideShapes Go.ChangeAt Go.RowKit Go.AL

theorem Try.own : ownKnob Try.prog.godebug = none := by kernel_rfl
theorem Try.laidOut : laidOutB Try.prog = true := by kernel_rfl

set_option maxRecDepth 100000 in
theorem valueSorts_lifted (os : Os) (started : os.Started) (H : Type) (enc : TypeId × Value → H) :
    ReturnsInHanded {} Try.checked os 4 .any (Rows.valueSortsSpec.pre6 enc Try.prog Try.f4 Rows.valueSortsRow.domain false) (Rows.valueSortsSpec.post enc Try.prog Try.f4 false true false false) := by
  refine returnsInHanded_of_change_shaped (C := Try.checked) Try.own started (by kernel_rfl) Try.func4
    (ChangeSpec.witness6 (enc := enc) (C := Try.checked) false ⟨#[], #[.slice none 0 0], []⟩ 8 (by kernel_rfl) (by kernel_rfl) (by kernel_rfl) (by kernel_rfl)) ?_
  intro W base args ds gs before hval0 hW hcnd _ hsh _
  have hval : ∀ (j : Nat) t v, Try.f4.params[j]? = some t → args[j]? = some v → Value.okWide Try.prog W .any base t v := hval0
  have hW' := hW
  obtain ⟨p, q, hA0, hV, rfl, hfz, hnd⟩ := hW
  have hA : DataW.TrodAll enc Try.prog W 0 (fun _ => true) true Try.f4.params.toList args.toList ds p := hA0
  rw [Try.params4] at hA hval
  obtain ⟨v0, d0, rfl, rfl, h0⟩ := trodAll_one hA
  obtain ⟨rfl, rfl⟩ := trodVars_none hV
  have l0 : ∀ x ∈ p, x.block < W.heap.size := by obtain ⟨fuel, hf⟩ := h0; exact DataW.trod_lt _ _ _ _ hf
  obtain ⟨a0, c0, k0⟩ := Opn.arg h0
  obtain ⟨s0, t0, u0, rfl⟩ := okWide_slice Try.underlying29 (hval 0 29 v0 rfl rfl)
  have e0 := one_arg rfl c0
  simp only [List.append_nil] at hW'
  letI : GlobF Try.prog := ⟨fun _ _ => none⟩
  refine ((valueSorts_pc a0 (Nat.lt_succ_of_le (show _ ≤ 9223372036854775807 from k0.1)) (fun p hp => Nat.lt_succ_of_le (show _ ≤ 9223372036854775807 from (k0.2 p hp).2.2))).law (fun b o u e => by cases e) (ConcL.cons e0 (.nil _))).mono fun e W' ⟨he, hn⟩ => ?_
  subst he
  exact ⟨_, rfl, ⟨_, _, _, [], _, [], hW', trodAll_mk1 (shut_bool Try.underlying4 true), trodAll_mk1 (Below.trod Try.laidOut (by kernel_rfl) (of_decide_eq_true (by kernel_rfl)) h0 hn l0), rfl, hn.frame _, fun h => by cases h⟩⟩

/-- THE STATEMENT: ValueSorts. -/
theorem valueSorts_holds : Rows.ValueSortsSaid :=
  OpenClaim.holds_of_wide 4 Try.f4 rfl rfl rfl rfl rfl rfl rfl ⟨rfl, rfl, rfl, rfl, rfl⟩ rfl rfl rfl rfl rfl (by kernel_rfl) Try.func4 (by kernel_rfl)
    (of_decide_eq_true (by kernel_rfl)) (by unfold Func.isWrapper; first | (rw [if_pos (by decide +kernel)]; kernel_rfl) | (rw [if_neg (by decide +kernel)]; exact ⟨rfl, rfl⟩))
    (fun os started H enc _ => valueSorts_lifted os started H enc)
end Go.Proofs.Ytpfalehodcbnbaa
