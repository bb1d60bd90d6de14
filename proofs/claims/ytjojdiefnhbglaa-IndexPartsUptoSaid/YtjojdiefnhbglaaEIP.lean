/- The statement IndexParts. No condition. -/
import Derived.Test.YtjojdiefnhbglaaEI8
import Derived.Test.YtjojdiefnhbglaaRows
import Derived.HandedShaped
import Derived.JoinedCond
namespace Go.Proofs.Ytjojdiefnhbglaa
open Go.ChangeShapes Go.WideShapes Go.ChangeAt Go.RowKit Go.AL
theorem Try.own : ownKnob Try.prog.godebug = none := by kernel_rfl
theorem Try.laidOut : laidOutB Try.prog = true := by kernel_rfl
set_option maxRecDepth 100000 in
theorem indexParts_lifted (os : Os) (started : os.Started) (H : Type) (enc : TypeId × Value → H) (F : Stop.Interp) :
    ReturnsInHanded {} Try.checked os 3 .any ((Rows.OpenSpec.upto Rows.indexPartsSpec).pre6 enc Try.prog Try.f3 Rows.indexPartsUptoRow.domain false) (((Rows.OpenSpec.upto Rows.indexPartsSpec).at F).post enc Try.prog Try.f3 false true false false) := by
  refine returnsInHanded_of_cond (C := Try.checked) (s := Rows.OpenSpec.upto Rows.indexPartsSpec) (k := Rows.uptoSmall) rfl Try.own started (by kernel_rfl) Try.func3
    (OpenSpec.witness (enc := enc) (C := Try.checked) (s := Rows.OpenSpec.upto Rows.indexPartsSpec) (k := Rows.uptoSmall) rfl false ⟨#[], #[.slice none 0 0, .slice none 0 0, .int .i64 0], []⟩ 8 (by kernel_rfl) (by kernel_rfl) (by kernel_rfl)
      (x := ([.nil, .nil, .lit (.int .i64 0)], [], [])) (by kernel_rfl) rfl (by kernel_rfl)) ?_
  intro W base args ds gs before hval0 hW _ hk _
  have hval : ∀ (j : Nat) t v, Try.f3.params[j]? = some t → args[j]? = some v → Value.okWide Try.prog W .any base t v := hval0
  have hW' := hW
  obtain ⟨p, q, hA0, hV, rfl, hfz, hnd⟩ := hW
  have hA : DataW.TrodAll enc Try.prog W 0 (fun _ => true) true Try.f3.params.toList args.toList ds p := hA0
  rw [Try.params3] at hA hval
  obtain ⟨v0, v1, v2, d0, d1, d2, p0, p1, p2, rfl, rfl, rfl, h0, h1, h2⟩ := trodAll_three hA
  obtain ⟨rfl, rfl⟩ := trodVars_none hV
  have l0 : ∀ x ∈ p0, x.block < W.heap.size := by obtain ⟨fuel, hf⟩ := h0; exact DataW.trod_lt _ _ _ _ hf
  obtain ⟨a0, c0, k0, q0⟩ := OpnB.arg bDats h0
  obtain ⟨s0, t0, u0, rfl⟩ := okWide_slice Try.underlying22 (hval 0 22 v0 rfl rfl)
  have e0 := one_arg rfl c0
  have l1 : ∀ x ∈ p1, x.block < W.heap.size := by obtain ⟨fuel, hf⟩ := h1; exact DataW.trod_lt _ _ _ _ hf
  obtain ⟨a1, c1, k1, q1⟩ := OpnB.arg bDats h1
  obtain ⟨s1, t1, u1, rfl⟩ := okWide_slice Try.underlying22 (hval 1 22 v1 rfl rfl)
  have e1 := one_arg rfl c1
  have l2 : ∀ x ∈ p2, x.block < W.heap.size := by obtain ⟨fuel, hf⟩ := h2; exact DataW.trod_lt _ _ _ _ hf
  obtain ⟨a2, c2, k2⟩ := Opn.arg h2
  obtain ⟨s2, rfl⟩ := okWide_int (k := .i64) Try.underlying3 (hval 2 3 v2 rfl rfl)
  have e2 := one_arg rfl c2
  simp only [List.append_nil] at hW' hk
  have hkk : Rows.uptoBulkAll [d0, d1, d2] ≤ 1048576 := of_decide_eq_true hk
  have w0 := Nat.le_trans q0 (Nat.le_trans (bulk_part (l := [d0, d1, d2]) List.mem_cons_self) hkk)
  have w1 := Nat.le_trans q1 (Nat.le_trans (bulk_part (l := [d0, d1, d2]) (List.mem_cons_of_mem _ List.mem_cons_self)) hkk)
  letI : GlobF Try.prog := ⟨fun _ _ => none, fun _ => none⟩
  refine ((indexParts_pc a0 a1 a2 w0 w1 (fun x hx => datI_of (k0.2 x hx)) (fun x hx => datI_of (k1.2 x hx))).law (fun b o u e => by cases e) (ConcL.cons e0 (.cons e1 (.cons e2 (.nil _))))).mono fun e W' ⟨he, hn⟩ => ?_
  subst he
  exact ⟨_, rfl, ⟨_, _, _, [], _, [], hW', trodAll_mk1 (shut_bool Try.underlying4 true), trodAll_mk3 (Below.trod Try.laidOut (by kernel_rfl) (of_decide_eq_true (by kernel_rfl)) h0 hn l0) (Below.trod Try.laidOut (by kernel_rfl) (of_decide_eq_true (by kernel_rfl)) h1 hn l1) (Below.trod Try.laidOut (by kernel_rfl) (of_decide_eq_true (by kernel_rfl)) h2 hn l2), rfl, hn.frame _, fun h => by cases h⟩⟩
theorem indexParts_holds : Rows.IndexPartsUptoSaid :=
  OpenClaim.holds_of_cond 3 Try.f3 rfl rfl rfl rfl rfl rfl rfl ⟨rfl, rfl, rfl, rfl, rfl⟩ rfl rfl rfl rfl rfl (by kernel_rfl) Try.func3 (by kernel_rfl)
    (of_decide_eq_true (by kernel_rfl)) (by unfold Func.isWrapper; first | (rw [if_pos (by decide +kernel)]; kernel_rfl) | (rw [if_neg (by decide +kernel)]; exact ⟨rfl, rfl⟩))
    (fun os started H enc _ F => indexParts_lifted os started H enc F)
end Go.Proofs.Ytjojdiefnhbglaa
