/- The plain law of spans: the document's way, by the instants at which something may turn. No condition. -/
import Derived.Test.YtfnmipagllofiaaGreatDoorWEq
import Derived.Test.YtfnmipagllofiaaGreatDoorOps12
namespace Go.Proofs
end Go.Proofs

namespace Go.Proofs
open Go.AL Go.Sort
structure WC {α : Type} (c : α → α → Int) : Prop where
  anti : ∀ x y, c x y < 0 ↔ 0 < c y x
  le : ∀ x y z, c x y ≤ 0 → c y z ≤ 0 → c x z ≤ 0
theorem WC.refl {α : Type} {c : α → α → Int} (h : WC c) (x : α) : c x x = 0 := by have := h.anti x x; omega
theorem WC.sym {α : Type} {c : α → α → Int} (h : WC c) {x y : α} (e : c x y = 0) : c y x = 0 := by have h1 := h.anti x y; have h2 := h.anti y x; omega
theorem WC.lt {α : Type} {c : α → α → Int} (h : WC c) {x y z : α} (h1 : c x y ≤ 0) (h2 : c y z ≤ 0) (h3 : c x y < 0 ∨ c y z < 0) : c x z < 0 := by
  have h4 := h.le x y z h1 h2
  rcases Int.lt_or_eq_of_le h4 with h5 | h5
  · exact h5
  · exfalso
    have h6 := h.sym h5
    rcases h3 with h3 | h3
    · have := h.le y z x h2 (by omega)
      have := (h.anti x y).1 h3; omega
    · have := h.le z x y (by omega) h1
      have := (h.anti y z).1 h3; omega
end Go.Proofs

namespace Go.AL
end Go.AL
