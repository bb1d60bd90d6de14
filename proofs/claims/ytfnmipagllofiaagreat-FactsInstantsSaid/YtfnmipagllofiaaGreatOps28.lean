/- Weakening of aggregates. No condition. -/
import Derived.Test.YtfnmipagllofiaaGreatBase
namespace Go.AL
theorem leAg {xs ys : List AV} (h : LeL xs ys) : Le (.ag xs) (.ag ys) := fun G v hv => by
  cases hv with
  | ag l h' =>
    have := LeL.conc (G := G) h ⟨l, h'⟩
    exact .ag this.1 this.2
end Go.AL
