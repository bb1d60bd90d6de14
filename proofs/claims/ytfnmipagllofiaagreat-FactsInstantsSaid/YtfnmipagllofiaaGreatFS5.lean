
/- Contracts of the statements SpanHas, SpanParts. -/
import Derived.Test.YtfnmipagllofiaaGreatFS4
namespace Go.Proofs
open Go.AL
attribute [local irreducible] Go.AL.W Go.AL.WL Go.AL.WD Go.AL.POp Go.AL.PPOp Go.AL.POpS Go.AL.PC Go.AL.AC Go.AL.YW Go.AL.Ret Go.AL.Le Go.AL.thn Go.AL.inBlk Go.AL.scp

theorem rng_in {l : List Sp} (h : rngS l) {x : Int} (hx : inS l x) : loT ≤ x ∧ x < hiT := by
  obtain ⟨s, hs, h1, h2⟩ := hx
  have := h s hs
  omega
theorem rng_of {l : List Sp} (h : SetP l) (hx : ∀ x, inS l x → loT ≤ x ∧ x < hiT) : rngS l := fun s hs => by
  have hne := h.1 s hs
  have h1 := hx s.f ⟨s, hs, Int.le_refl _, hne⟩
  have h2 := hx (s.t - 1) ⟨s, hs, by omega, by omega⟩
  omega
theorem and_ok {a b : List Sp} (ha : SetP a) (hb : SetP b) : SetP (meetL a b) ∧ ∀ x, inS (meetL a b) x ↔ (inS a x ∧ inS b x) := meet_ok _ a b (Nat.le_refl _) ha hb
theorem min_ok {a b : List Sp} (ha : SetP a) (hb : SetP b) (ra : ∀ x, inS a x → loT ≤ x ∧ x < hiT) (rb : rngS b) : SetP (minL a b) ∧ ∀ x, inS (minL a b) x ↔ (inS a x ∧ ¬ inS b x) := by
  obtain ⟨r1, r2⟩ := rest_ok b loT hb rb (fun s hs => (rb s hs).1.1)
  obtain ⟨m1, m2⟩ := and_ok ha r1
  refine ⟨m1, fun x => (m2 x).trans ⟨fun h => ⟨h.1, ((r2 x).1 h.2).2.2⟩, fun h => ⟨h.1, (r2 x).2 ⟨(ra x h.1).1, (ra x h.1).2, h.2⟩⟩⟩⟩
theorem ne_app {a b : List Sp} (ha : SetP a) (hb : SetP b) : neS (a ++ b) := fun s hs => by
  rcases List.mem_append.1 hs with h | h
  · exact ha.1 s h
  · exact hb.1 s h
theorem or_ok {a b : List Sp} (ha : SetP a) (hb : SetP b) : SetP (canS (a ++ b)) ∧ ∀ x, inS (canS (a ++ b)) x ↔ (inS a x ∨ inS b x) := by
  obtain ⟨k1, k2⟩ := canS_ok (ne_app ha hb)
  exact ⟨k1, fun x => (k2 x).trans (inS_append a b x)⟩
theorem canS_len (l : List Sp) : (canS l).length ≤ l.length := by
  have := J_len (l.mergeSort fun x y => decide (x.f ≤ y.f))
  rwa [List.length_mergeSort] at this
theorem min_len (a b : List Sp) : (minL a b).length ≤ a.length + b.length + 1 := by
  have h1 := meet_len _ a (restL loT b) (Nat.le_refl _)
  have h2 := rest_len b loT
  show (meetL a (restL loT b)).length ≤ _
  omega

end Go.Proofs
