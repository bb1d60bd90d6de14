/- Rules of the abstract logic: a box frozen ahead of an operation. No condition. -/
import Derived.Test.YtjojdiefnhbglaaGreatOps5
set_option linter.all false
namespace Go.AL
section
variable {P : Program} [GlobF P] {fr : Option Nat} {N : Nat} {Q : Exit → AS → Prop} {ops : Array Oper} {rg : List (Nat × AV)} {h : List AObj} {mk : Mk}
end
end Go.AL
