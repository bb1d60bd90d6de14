/- The statement FactsTell. No condition. -/
import Derived.Test.YtfnmipagllofiaaGreatFF23
import Derived.Test.YtfnmipagllofiaaGreatFBulk
import Derived.Test.YtfnmipagllofiaaGreatRows
import Derived.HandedShaped
import Derived.JoinedCond
import Derived.Test.YtfnmipagllofiaaGreatOpen4
namespace Go.Proofs.YtfnmipagllofiaaGreat
open Go.ChangeShapes Go.WideShapes Go.ChangeAt Go.RowKit Go.AL
theorem Tryz.own : ownKnob Tryz.prog.godebug = none := by kernel_rfl
theorem Tryz.laidOut : laidOutB Tryz.prog = true := by kernel_rfl
set_option maxRecDepth 100000 in
theorem factsTell_lifted (os : Os) (started : os.Started) (H : Type) (enc : TypeId × Value → H) (F : Stop.Interp) :
    ReturnsInHanded {} Tryz.checked os 3 .any ((Rows.OpenSpec.upto Rows.factsTellSpec).pre6 enc Tryz.prog Tryz.f3 Rows.factsTellUptoRow.domain false) (((Rows.OpenSpec.upto Rows.factsTellSpec).at F).post enc Tryz.prog Tryz.f3 false true false false) := by
  refine returnsInHanded_of_cond (C := Tryz.checked) (s := Rows.OpenSpec.upto Rows.factsTellSpec) (k := Rows.uptoSmall) rfl Tryz.own started (by kernel_rfl) Tryz.func3
    (OpenSpec.witness (enc := enc) (C := Tryz.checked) (s := Rows.OpenSpec.upto Rows.factsTellSpec) (k := Rows.uptoSmall) rfl false ⟨#[], #[.slice none 0 0, .slice none 0 0, .int .i64 0, .int .i64 0, .int .i64 0], []⟩ 8 (by kernel_rfl) (by kernel_rfl) (by kernel_rfl)
      (x := ([.nil, .nil, .lit (.int .i64 0), .lit (.int .i64 0), .lit (.int .i64 0)], [], [])) (by kernel_rfl) rfl (by kernel_rfl)) ?_
  intro W base args ds gs before hval0 hW _ hk _
  have hval : ∀ (j : Nat) t v, Tryz.f3.params[j]? = some t → args[j]? = some v → Value.okWide Tryz.prog W .any base t v := hval0
  have hW' := hW
  obtain ⟨p, q, hA0, hV, rfl, hfz, hnd⟩ := hW
  have hA : DataW.TrodAll enc Tryz.prog W 0 (fun _ => true) true Tryz.f3.params.toList args.toList ds p := hA0
  rw [Tryz.params3] at hA hval
  obtain ⟨v0, v1, v2, v3, v4, d0, d1, d2, d3, d4, p0, p1, p2, p3, p4, rfl, rfl, rfl, h0, h1, h2, h3, h4⟩ := trodAll_five hA
  obtain ⟨rfl, rfl⟩ := trodVars_none hV
  have l0 : ∀ x ∈ p0, x.block < W.heap.size := by obtain ⟨fuel, hf⟩ := h0; exact DataW.trod_lt _ _ _ _ hf
  obtain ⟨a0, c0, k0, q0⟩ := OpnB.arg bFacs h0
  obtain ⟨s0, t0, u0, rfl⟩ := okWide_slice Tryz.underlying22 (hval 0 22 v0 rfl rfl)
  have e0 := one_arg rfl c0
  have l1 : ∀ x ∈ p1, x.block < W.heap.size := by obtain ⟨fuel, hf⟩ := h1; exact DataW.trod_lt _ _ _ _ hf
  obtain ⟨a1, c1, k1, q1⟩ := OpnB.arg bFacs h1
  obtain ⟨s1, t1, u1, rfl⟩ := okWide_slice Tryz.underlying22 (hval 1 22 v1 rfl rfl)
  have e1 := one_arg rfl c1
  have l2 : ∀ x ∈ p2, x.block < W.heap.size := by obtain ⟨fuel, hf⟩ := h2; exact DataW.trod_lt _ _ _ _ hf
  obtain ⟨a2, c2, k2⟩ := Opn.arg h2
  obtain ⟨s2, rfl⟩ := okWide_int (k := .i64) Tryz.underlying3 (hval 2 3 v2 rfl rfl)
  have e2 := one_arg rfl c2
  have l3 : ∀ x ∈ p3, x.block < W.heap.size := by obtain ⟨fuel, hf⟩ := h3; exact DataW.trod_lt _ _ _ _ hf
  obtain ⟨a3, c3, k3⟩ := Opn.arg h3
  obtain ⟨s3, rfl⟩ := okWide_int (k := .i64) Tryz.underlying2 (hval 3 2 v3 rfl rfl)
  have e3 := one_arg rfl c3
  have l4 : ∀ x ∈ p4, x.block < W.heap.size := by obtain ⟨fuel, hf⟩ := h4; exact DataW.trod_lt _ _ _ _ hf
  obtain ⟨a4, c4, k4⟩ := Opn.arg h4
  obtain ⟨s4, rfl⟩ := okWide_int (k := .i64) Tryz.underlying2 (hval 4 2 v4 rfl rfl)
  have e4 := one_arg rfl c4
  simp only [List.append_nil] at hW' hk
  have hkk : Rows.uptoBulkAll [d0, d1, d2, d3, d4] ≤ 1048576 := of_decide_eq_true hk
  have w0 := Nat.le_trans q0 (Nat.le_trans (bulk_part (l := [d0, d1, d2, d3, d4]) List.mem_cons_self) hkk)
  have w1 := Nat.le_trans q1 (Nat.le_trans (bulk_part (l := [d0, d1, d2, d3, d4]) (List.mem_cons_of_mem _ List.mem_cons_self)) hkk)
  letI : GlobF Tryz.prog := ⟨fun _ _ => none, fun _ => none⟩
  refine ((factsTell_pc a0 a1 a2 a3 a4 w0 w1 (fun f h s hs => ((k0.2 f h).2.2.2.2 s hs).rng) (fun f h s hs => ((k1.2 f h).2.2.2.2 s hs).rng)).law (fun b o u e => by cases e) (ConcL.cons e0 (.cons e1 (.cons e2 (.cons e3 (.cons e4 (.nil _))))))).mono fun e W' ⟨he, hn⟩ => ?_
  subst he
  exact ⟨_, rfl, ⟨_, _, _, [], _, [], hW', trodAll_mk1 (shut_bool Tryz.underlying4 true), trodAll_mk5 (Below.trod Tryz.laidOut (by kernel_rfl) (of_decide_eq_true (by kernel_rfl)) h0 hn l0) (Below.trod Tryz.laidOut (by kernel_rfl) (of_decide_eq_true (by kernel_rfl)) h1 hn l1) (Below.trod Tryz.laidOut (by kernel_rfl) (of_decide_eq_true (by kernel_rfl)) h2 hn l2) (Below.trod Tryz.laidOut (by kernel_rfl) (of_decide_eq_true (by kernel_rfl)) h3 hn l3) (Below.trod Tryz.laidOut (by kernel_rfl) (of_decide_eq_true (by kernel_rfl)) h4 hn l4), rfl, hn.frame _, fun h => by cases h⟩⟩
theorem factsTell_holds : Rows.FactsTellUptoSaid :=
  OpenClaim.holds_of_cond 3 Tryz.f3 rfl rfl rfl rfl rfl rfl rfl ⟨rfl, rfl, rfl, rfl, rfl⟩ rfl rfl rfl rfl rfl (by kernel_rfl) Tryz.func3 (by kernel_rfl)
    (of_decide_eq_true (by kernel_rfl)) (by unfold Func.isWrapper; first | (rw [if_pos (by decide +kernel)]; kernel_rfl) | (rw [if_neg (by decide +kernel)]; exact ⟨rfl, rfl⟩))
    (fun os started H enc _ F => factsTell_lifted os started H enc F)
end Go.Proofs.YtfnmipagllofiaaGreat
