/- Sorting in place, in the abstract logic: the library's contract joined to it. No condition. -/
import Derived.Test.YtjojdiefnhbglaaOps11
import Derived.Shelf.SlSortCmp.NoneTotal
namespace Go.AL
open Go.Proofs (Enters ltOf)
open Go.Sort (SWO HoldsK putRowK putRow mapBlock putCells Holds)
section
variable {α : Type} [Inhabited α]
end
end Go.AL
