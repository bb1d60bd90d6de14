/- Rules of the abstract logic: a nil slice in a box begins a row of one's own. No condition. -/
import Derived.Test.YtnjnjbombcefcaaDoorOps21
set_option linter.all false
namespace Go.AL
section
variable {P : Program} [GlobF P] {fr : Option Nat} {N : Nat} {Q : Exit → AS → Prop} {ops : Array Oper} {rg : List (Nat × AV)} {h : List AObj} {mk : Mk}
end
end Go.AL
