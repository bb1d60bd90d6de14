/- The statement FactsStay, where what comes in is small. -/
import Derived.Test.YtfnmipagllofiaaGreatFF11
import Derived.Test.YtfnmipagllofiaaGreatFOpn
import Derived.Test.YtfnmipagllofiaaGreatRows
import Derived.HandedShaped
import Derived.JoinedCond
import Derived.Test.YtfnmipagllofiaaGreatOpen
namespace Go.Proofs.YtfnmipagllofiaaGreat
open Go.ChangeShapes Go.WideShapes Go.ChangeAt Go.RowKit Go.AL

theorem Tryz.own : ownKnob Tryz.prog.godebug = none := by kernel_rfl
theorem Tryz.laidOut : laidOutB Tryz.prog = true := by kernel_rfl

theorem bulk_one {H : Type} (d : DataW H) : 1 ≤ Rows.uptoBulk d := by
  cases d with
  | lit l => cases l <;> simp [Rows.uptoBulk]
  | nil => simp [Rows.uptoBulk]
  | ptr d => simp [Rows.uptoBulk]
  | slice elems spare => simp [Rows.uptoBulk]
  | agg parts => simp [Rows.uptoBulk]
  | iface t d => simp [Rows.uptoBulk]
  | map entries => simp [Rows.uptoBulk]
  | held h => simp [Rows.uptoBulk]
theorem bulk_part {H : Type} {d : DataW H} {l : List (DataW H)} (h : d ∈ l) : Rows.uptoBulk d ≤ Rows.uptoBulkAll l := by
  induction l with
  | nil => cases h
  | cons x r ih =>
    simp only [Rows.uptoBulkAll]
    rcases List.mem_cons.1 h with e | e
    · subst e; omega
    · have := ih e; omega
theorem bulk_len {H : Type} (l : List (DataW H)) : l.length ≤ Rows.uptoBulkAll l := by
  induction l with
  | nil => exact Nat.zero_le _
  | cons x r ih => have := bulk_one x; simp only [Rows.uptoBulkAll, List.length_cons]; omega
/-- A slice's length is at most its bulk. -/
theorem bulk_arg {H α : Type} {en : TypeId × Value → H} {P : Program} {w : World} {t e : TypeId} {d : DataW H} {ps : List MemPlace} {base : Nat} {held : Bool} {a : Option Addr} {len cap k : Nat} {tok : Option Nat} {l : List α} {f : α → List AV} {G : Gh}
    (ht : P.underlying t = some (.slice e)) (h : DataW.Trod en P w base (fun _ => true) held t (.slice a len cap) d ps) (hc : Conc G (.slice a len cap) (.sl tok k (l.map f))) : l.length ≤ Rows.uptoBulk d := by
  have hl := sl_len hc
  rw [List.length_map] at hl
  rw [hl]
  obtain ⟨fuel, hf⟩ := h
  rcases Go.Deep.open_slice ht hf with ⟨h1, _⟩ | ⟨a', len', cap', m, n, D, Pl, h1, hb, hl, hm, hmm, hx, _⟩
  · cases h1; exact Nat.zero_le _
  · have e1 : len = len' := by cases h1; rfl
    have hd : d = .slice ((List.range len').map D) ((List.range (m - len')).map fun j => D (len' + j)) := congrArg Prod.fst hx
    subst hd
    have h2 := bulk_len ((List.range len').map D)
    rw [List.length_map, List.length_range] at h2
    simp only [Rows.uptoBulk]
    omega

set_option maxRecDepth 100000 in
theorem factsStay_lifted (os : Os) (started : os.Started) (H : Type) (enc : TypeId × Value → H) (F : Stop.Interp) :
    ReturnsInHanded {} Tryz.checked os 6 .any ((Rows.OpenSpec.upto Rows.factsStaySpec).pre6 enc Tryz.prog Tryz.f6 Rows.factsStayUptoRow.domain false) (((Rows.OpenSpec.upto Rows.factsStaySpec).at F).post enc Tryz.prog Tryz.f6 false true false false) := by
  refine returnsInHanded_of_cond (C := Tryz.checked) (s := Rows.OpenSpec.upto Rows.factsStaySpec) (k := Rows.uptoSmall) rfl Tryz.own started (by kernel_rfl) Tryz.func6
    (OpenSpec.witness (enc := enc) (C := Tryz.checked) (s := Rows.OpenSpec.upto Rows.factsStaySpec) (k := Rows.uptoSmall) rfl false ⟨#[], #[.slice none 0 0, .slice none 0 0, .int .i64 0], []⟩ 8 (by kernel_rfl) (by kernel_rfl) (by kernel_rfl)
      (x := ([.nil, .nil, .lit (.int .i64 0)], [], [])) (by kernel_rfl) rfl (by kernel_rfl)) ?_
  intro W base args ds gs before hval0 hW _ hk _
  have hval : ∀ (j : Nat) t v, Tryz.f6.params[j]? = some t → args[j]? = some v → Value.okWide Tryz.prog W .any base t v := hval0
  have hW' := hW
  obtain ⟨p, q, hA0, hV, rfl, hfz, hnd⟩ := hW
  have hA : DataW.TrodAll enc Tryz.prog W 0 (fun _ => true) true Tryz.f6.params.toList args.toList ds p := hA0
  rw [Tryz.params6] at hA hval
  obtain ⟨v0, v1, v2, d0, d1, d2, p0, p1, p2, rfl, rfl, rfl, h0, h1, h2⟩ := trodAll_three hA
  obtain ⟨rfl, rfl⟩ := trodVars_none hV
  have l0 : ∀ x ∈ p0, x.block < W.heap.size := by obtain ⟨fuel, hf⟩ := h0; exact DataW.trod_lt _ _ _ _ hf
  obtain ⟨a0, c0, k0⟩ := Opn.arg h0
  obtain ⟨s0, t0, u0, rfl⟩ := okWide_slice Tryz.underlying31 (hval 0 31 v0 rfl rfl)
  have e0 := one_arg rfl c0
  have l1 : ∀ x ∈ p1, x.block < W.heap.size := by obtain ⟨fuel, hf⟩ := h1; exact DataW.trod_lt _ _ _ _ hf
  obtain ⟨a1, c1, k1⟩ := Opn.arg h1
  obtain ⟨s1, t1, u1, rfl⟩ := okWide_slice Tryz.underlying31 (hval 1 31 v1 rfl rfl)
  have e1 := one_arg rfl c1
  have l2 : ∀ x ∈ p2, x.block < W.heap.size := by obtain ⟨fuel, hf⟩ := h2; exact DataW.trod_lt _ _ _ _ hf
  obtain ⟨a2, c2, k2⟩ := Opn.arg h2
  obtain ⟨s2, rfl⟩ := okWide_int (k := .i64) Tryz.underlying2 (hval 2 2 v2 rfl rfl)
  have e2 := one_arg rfl c2
  simp only [List.append_nil] at hW' hk
  have hkk : Rows.uptoBulkAll [d0, d1, d2] ≤ 1048576 := of_decide_eq_true hk
  have hz0 := Nat.le_trans (bulk_arg Tryz.underlying31 h0 e0) (Nat.le_trans (bulk_part (l := [d0, d1, d2]) List.mem_cons_self) hkk)
  have hz1 := Nat.le_trans (bulk_arg Tryz.underlying31 h1 e1) (Nat.le_trans (bulk_part (l := [d0, d1, d2]) (List.mem_cons_of_mem _ List.mem_cons_self)) hkk)
  letI : GlobF Tryz.prog := ⟨fun _ _ => none, fun _ => none⟩
  refine ((factsStay_pc a0 a1 a2 (by omega) (by omega) (fun d h => (k0.2 d h).sl) (fun d h => (k1.2 d h).sl) (fun d h => (k0.2 d h).rg) (fun d h => (k1.2 d h).rg)).law (fun b o u e => by cases e) (ConcL.cons e0 (.cons e1 (.cons e2 (.nil _))))).mono fun e W' ⟨he, hn⟩ => ?_
  subst he
  exact ⟨_, rfl, ⟨_, _, _, [], _, [], hW', trodAll_mk1 (shut_bool Tryz.underlying4 true), trodAll_mk3 (Below.trod Tryz.laidOut (by kernel_rfl) (of_decide_eq_true (by kernel_rfl)) h0 hn l0) (Below.trod Tryz.laidOut (by kernel_rfl) (of_decide_eq_true (by kernel_rfl)) h1 hn l1) (Below.trod Tryz.laidOut (by kernel_rfl) (of_decide_eq_true (by kernel_rfl)) h2 hn l2), rfl, hn.frame _, fun h => by cases h⟩⟩

/-- THE STATEMENT: FactsStay. -/
theorem factsStay_holds : Rows.FactsStayUptoSaid :=
  OpenClaim.holds_of_cond 6 Tryz.f6 rfl rfl rfl rfl rfl rfl rfl ⟨rfl, rfl, rfl, rfl, rfl⟩ rfl rfl rfl rfl rfl (by kernel_rfl) Tryz.func6 (by kernel_rfl)
    (of_decide_eq_true (by kernel_rfl)) (by unfold Func.isWrapper; first | (rw [if_pos (by decide +kernel)]; kernel_rfl) | (rw [if_neg (by decide +kernel)]; exact ⟨rfl, rfl⟩))
    (fun os started H enc _ F => factsStay_lifted os started H enc F)
end Go.Proofs.YtfnmipagllofiaaGreat
