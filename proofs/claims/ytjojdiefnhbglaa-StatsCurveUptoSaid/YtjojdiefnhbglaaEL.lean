/- The statement StatsCurve. No condition. -/
import Derived.Test.YtjojdiefnhbglaaEC5
import Derived.Test.YtjojdiefnhbglaaEBulk
import Derived.Test.YtjojdiefnhbglaaRows
import Derived.HandedShaped
import Derived.JoinedCond
import Derived.Test.YtjojdiefnhbglaaOpen4
namespace Go.Proofs.Ytjojdiefnhbglaa
open Go.ChangeShapes Go.WideShapes Go.ChangeAt Go.RowKit Go.AL
theorem Try.own : ownKnob Try.prog.godebug = none := by kernel_rfl
theorem Try.laidOut : laidOutB Try.prog = true := by kernel_rfl
set_option maxRecDepth 100000 in
theorem statsCurve_lifted (os : Os) (started : os.Started) (H : Type) (enc : TypeId × Value → H) (F : Stop.Interp) :
    ReturnsInHanded {} Try.checked os 5 .any ((Rows.OpenSpec.upto Rows.statsCurveSpec).pre6 enc Try.prog Try.f5 Rows.statsCurveUptoRow.domain false) (((Rows.OpenSpec.upto Rows.statsCurveSpec).at F).post enc Try.prog Try.f5 false true false false) := by
  refine returnsInHanded_of_cond (C := Try.checked) (s := Rows.OpenSpec.upto Rows.statsCurveSpec) (k := Rows.uptoSmall) rfl Try.own started (by kernel_rfl) Try.func5
    (OpenSpec.witness (enc := enc) (C := Try.checked) (s := Rows.OpenSpec.upto Rows.statsCurveSpec) (k := Rows.uptoSmall) rfl false ⟨#[], #[.slice none 0 0], []⟩ 8 (by kernel_rfl) (by kernel_rfl) (by kernel_rfl)
      (x := ([.nil], [], [])) (by kernel_rfl) rfl (by kernel_rfl)) ?_
  intro W base args ds gs before hval0 hW _ hk _
  have hval : ∀ (j : Nat) t v, Try.f5.params[j]? = some t → args[j]? = some v → Value.okWide Try.prog W .any base t v := hval0
  have hW' := hW
  obtain ⟨p, q, hA0, hV, rfl, hfz, hnd⟩ := hW
  have hA : DataW.TrodAll enc Try.prog W 0 (fun _ => true) true Try.f5.params.toList args.toList ds p := hA0
  rw [Try.params5] at hA hval
  obtain ⟨v0, d0, rfl, rfl, h0⟩ := trodAll_one hA
  obtain ⟨rfl, rfl⟩ := trodVars_none hV
  have l0 : ∀ x ∈ p, x.block < W.heap.size := by obtain ⟨fuel, hf⟩ := h0; exact DataW.trod_lt _ _ _ _ hf
  obtain ⟨a0, c0, k0, q0⟩ := OpnB.arg bFacs h0
  obtain ⟨s0, t0, u0, rfl⟩ := okWide_slice Try.underlying44 (hval 0 44 v0 rfl rfl)
  have e0 := one_arg rfl c0
  simp only [List.append_nil] at hW' hk
  have hkk : Rows.uptoBulkAll [d0] ≤ 1048576 := of_decide_eq_true hk
  have w0 := Nat.le_trans q0 (Nat.le_trans (bulk_part (l := [d0]) List.mem_cons_self) hkk)
  letI : GlobF Try.prog := ⟨fun _ _ => none, fun _ => none⟩
  refine ((statsCurve_pc a0 w0 (fun f h s hs => ((k0.2 f h).2.2.2.2 s hs).rng.2.2)).law (fun b o u e => by cases e) (ConcL.cons e0 (.nil _))).mono fun e W' ⟨he, hn⟩ => ?_
  subst he
  exact ⟨_, rfl, ⟨_, _, _, [], _, [], hW', trodAll_mk1 (shut_bool Try.underlying4 true), trodAll_mk1 (Below.trod Try.laidOut (by kernel_rfl) (of_decide_eq_true (by kernel_rfl)) h0 hn l0), rfl, hn.frame _, fun h => by cases h⟩⟩
theorem statsCurve_holds : Rows.StatsCurveUptoSaid :=
  OpenClaim.holds_of_cond 5 Try.f5 rfl rfl rfl rfl rfl rfl rfl ⟨rfl, rfl, rfl, rfl, rfl⟩ rfl rfl rfl rfl rfl (by kernel_rfl) Try.func5 (by kernel_rfl)
    (of_decide_eq_true (by kernel_rfl)) (by unfold Func.isWrapper; first | (rw [if_pos (by decide +kernel)]; kernel_rfl) | (rw [if_neg (by decide +kernel)]; exact ⟨rfl, rfl⟩))
    (fun os started H enc _ F => statsCurve_lifted os started H enc F)
end Go.Proofs.Ytjojdiefnhbglaa
