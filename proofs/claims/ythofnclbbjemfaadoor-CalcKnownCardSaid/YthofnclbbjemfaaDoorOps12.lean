/- Sorting in place, in the abstract logic: the library's contract joined to it. No condition. -/
import Derived.Test.YthofnclbbjemfaaDoorOps11
import Derived.Shelf.SlSortCmp.NoneTotal
set_option linter.all false
namespace Go.AL
open Go.Proofs (Enters ltOf)
open Go.Sort (SWO HoldsK putRowK putRow mapBlock putCells Holds)
section
variable {α : Type} [Inhabited α]
theorem concSc {G : Gh} : ∀ {cs vs : List Value},ConcL G cs (vs.map AV.sc) → cs = vs
  | cs,[],h=>h.inv_nil
  | cs,v :: vs,h=>by
    obtain ⟨u,us,rfl,h1,h2⟩:=h.inv_cons
    rw [conc_sc h1,concSc h2]
end
end Go.AL
