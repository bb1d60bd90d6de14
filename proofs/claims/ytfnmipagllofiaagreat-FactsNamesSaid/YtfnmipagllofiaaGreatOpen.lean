/- What an argument that reads as data stands for in the abstract logic. No condition. -/
import Derived.Test.YtfnmipagllofiaaGreatOps25
import Derived.Test.YtfnmipagllofiaaGreatBridge
import Derived.Deep.Slices
import Derived.ChangeArms
import Derived.ChangeOld
namespace Go.AL
class Opn (P : Program) (t : TypeId) {α : outParam Type} (enc : outParam (α → List AV)) (ok : outParam (α → Prop)) : Prop where
  h : ∀ {H : Type} {en : TypeId × Value → H} {w : World} {base : Nat} {spare : Nat → Bool} {held : Bool} {fuel : Nat} {cs : List Value} {x : DataW H × List MemPlace}, (∀ b, spare b = true) →
    DataW.trod en P w base spare held fuel t cs = some x → ∃ a, ConcL (Gh.all w) cs (enc a) ∧ ok a
class Cel (P : Program) (t : TypeId) (n : outParam Nat) : Prop where
  h : P.cellsOf t = n
end Go.AL
