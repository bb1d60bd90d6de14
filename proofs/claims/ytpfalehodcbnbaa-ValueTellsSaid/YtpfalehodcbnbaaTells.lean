/- The bridge from a call's contract in the abstract logic to what a statement asks. -/
import Derived.Test.YtpfalehodcbnbaaV3
import Derived.Test.YtpfalehodcbnbaaRows
import Derived.ProofKit
import Derived.Carry
import Derived.Lib.SmallJoins
namespace Go.AL
open Go.RowKit

def Gh.all (W : World) : Gh := Gh.of fun b o => W.cell? ⟨b, o, none⟩

/-- A contract, used at the whole world as it stands. -/
theorem PC.law {P : Program} {f : FuncId} {xs : List AV} {u : Value} (h : PC P f xs (.sc u)) {W : World} {vs : List Value} (hc : ConcL (Gh.all W) vs xs) :
    Calls P f vs.toArray W fun e W' => e = .returned u ∧ Below W.heap.size W W' :=
  (h.2 W _ vs (fun _ _ _ e => e) hc).mono fun e W' ⟨r, imm', he, hg, _, _, hr⟩ => by
    have := conc_sc hr
    subst this
    exact ⟨he, hg.os, hg.tape, hg.output, hg.size, hg.out⟩

theorem conc_str {G : Gh} (s : ByteArray) : Conc G (.string s) (str s.data.toList) := by
  have e : (⟨s.data.toList.toArray⟩ : ByteArray) = s := by cases s; simp
  have := Conc.sc (G := G) (.string ⟨s.data.toList.toArray⟩)
  rw [e] at this
  unfold str
  rw [e]
  exact this
theorem conc_ag3 {G : Gh} {a b c : Value} {x y z : AV} (h1 : Conc G a x) (h2 : Conc G b y) (h3 : Conc G c z) : Conc G (.agg #[a, b, c]) (.ag [x, y, z]) :=
  .ag (cs := [a, b, c]) rfl (ConcL.cons h1 (ConcL.cons h2 (ConcL.cons h3 (.nil _)))).2
end Go.AL

namespace Go.Proofs.Ytpfalehodcbnbaa
open Go.ChangeShapes Go.WideShapes Go.ChangeAt Go.RowKit Go.AL

theorem Try.own : ownKnob Try.prog.godebug = none := by kernel_rfl
theorem Try.laidOut : laidOutB Try.prog = true := by kernel_rfl

set_option maxRecDepth 100000 in
theorem valueTells_lifted (os : Os) (started : os.Started) (H : Type) (enc : TypeId × Value → H) :
    ReturnsInHanded {} Try.checked os 3 .any (Rows.valueTellsSpec.pre6 enc Try.prog Try.f3 Rows.valueTellsRow.domain false) (Rows.valueTellsSpec.post enc Try.prog Try.f3 false true false false) := by
  refine returnsInHanded_of_change (C := Try.checked) Try.own started (by kernel_rfl) Try.func3
    (ChangeSpec.witness6 (enc := enc) (C := Try.checked) false ⟨#[], #[.agg #[.int .i64 0, .int .i64 0, .string ⟨#[]⟩], .agg #[.int .i64 0, .int .i64 0, .string ⟨#[]⟩]], []⟩ 8 (by kernel_rfl) (by kernel_rfl) (by kernel_rfl) (by kernel_rfl)) ?_
  intro W base args ds gs before hval0 hW hcnd _
  have hval : ∀ (j : Nat) t v, Try.f3.params[j]? = some t → args[j]? = some v → Value.okWide Try.prog W .any base t v := hval0
  have hW' := hW
  obtain ⟨p, q, hA0, hV, rfl, hfz, hnd⟩ := hW
  have hA : DataW.TrodAll enc Try.prog W 0 (fun _ => true) true Try.f3.params.toList args.toList ds p := hA0
  rw [Try.params3] at hA hval
  obtain ⟨v0, v1, d0, d1, p0, p1, rfl, rfl, rfl, h0, h1⟩ := trodAll_two hA
  obtain ⟨rfl, rfl⟩ := trodVars_none hV
  have h0k := h0
  have h1k := h1
  obtain ⟨a0, a1, a2, y0, y1, y2, n, rfl, rfl, rfl, ha0, ha1, ha2⟩ := Go.Joins.open_agg3 Try.underlying23 (by kernel_rfl) (by kernel_rfl) (hval 0 23 v0 rfl rfl) h0
  obtain ⟨b0, b1, b2, z0, z1, z2, m, rfl, rfl, rfl, hb0, hb1, hb2⟩ := Go.Joins.open_agg3 Try.underlying23 (by kernel_rfl) (by kernel_rfl) (hval 1 23 v1 rfl rfl) h1
  obtain ⟨ka, hk, rfl, _⟩ := DataW.trod_int Try.underlying3 ha0
  cases hk
  obtain ⟨na, hk, rfl, _⟩ := DataW.trod_int Try.underlying2 ha1
  cases hk
  obtain ⟨sa, hk, rfl, _⟩ := DataW.trod_string Try.underlying9 ha2
  cases hk
  obtain ⟨kb, hk, rfl, _⟩ := DataW.trod_int Try.underlying3 hb0
  cases hk
  obtain ⟨nb, hk, rfl, _⟩ := DataW.trod_int Try.underlying2 hb1
  cases hk
  obtain ⟨sb, hk, rfl, _⟩ := DataW.trod_string Try.underlying9 hb2
  cases hk
  clear hA0 hval0
  simp only [List.append_nil] at hW'
  have hlt : ∀ x ∈ ([] : List MemPlace), x.block < W.heap.size := fun x hx => by cases hx
  have hc : ConcL (Gh.all W) [.agg #[.int .i64 ka, .int .i64 na, .string sa], .agg #[.int .i64 kb, .int .i64 nb, .string sb]] [eV ⟨ka, na, sa.data.toList⟩, eV ⟨kb, nb, sb.data.toList⟩] :=
    ConcL.cons (conc_ag3 (.sc _) (.sc _) (conc_str sa)) (ConcL.cons (conc_ag3 (.sc _) (.sc _) (conc_str sb)) (.nil _))
  refine ((valueTells_pc ⟨ka, na, sa.data.toList⟩ ⟨kb, nb, sb.data.toList⟩).law hc).mono fun e W' ⟨he, hn⟩ => ?_
  subst he
  exact ⟨_, rfl, ⟨_, _, _, [], _, [], hW', trodAll_mk1 (shut_bool Try.underlying4 true), trodAll_mk2 (Below.trod Try.laidOut (by kernel_rfl) (of_decide_eq_true (by kernel_rfl)) h0k hn hlt) (Below.trod Try.laidOut (by kernel_rfl) (of_decide_eq_true (by kernel_rfl)) h1k hn hlt), rfl, hn.frame _, fun h => by cases h⟩⟩

/-- THE STATEMENT: ValueTells. -/
theorem valueTells_holds : Rows.ValueTellsSaid :=
  OpenClaim.holds_of_wide 3 Try.f3 rfl rfl rfl rfl rfl rfl rfl ⟨rfl, rfl, rfl, rfl, rfl⟩ rfl rfl rfl rfl rfl (by kernel_rfl) Try.func3 (by kernel_rfl)
    (of_decide_eq_true (by kernel_rfl)) (by unfold Func.isWrapper; first | (rw [if_pos (by decide +kernel)]; kernel_rfl) | (rw [if_neg (by decide +kernel)]; exact ⟨rfl, rfl⟩))
    (fun os started H enc _ => valueTells_lifted os started H enc)
end Go.Proofs.Ytpfalehodcbnbaa
