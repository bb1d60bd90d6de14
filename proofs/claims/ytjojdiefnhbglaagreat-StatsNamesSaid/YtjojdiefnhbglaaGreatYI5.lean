
/- The law IndexAdds. -/
import Derived.Test.YtjojdiefnhbglaaGreatYT10
set_option linter.all false
namespace Go.Proofs
open Go.AL Go.Sort
attribute [local irreducible] Go.AL.W Go.AL.WL Go.AL.WD Go.AL.POp Go.AL.PPOp Go.AL.POpS Go.AL.PC Go.AL.AC Go.AL.YW Go.AL.Ret Go.AL.Le Go.AL.thn Go.AL.inBlk Go.AL.scp
end Go.Proofs

namespace Go.Proofs
open Go.AL Go.Sort
attribute [local irreducible] Go.AL.W Go.AL.WL Go.AL.WD Go.AL.POp Go.AL.PPOp Go.AL.POpS Go.AL.PC Go.AL.AC Go.AL.YW Go.AL.Ret Go.AL.Le Go.AL.thn Go.AL.inBlk Go.AL.scp
structure Vw where
  up : Int
  af : Int
  at_ : Int
  one : Bool
  no : Bool
abbrev wC (v : Vw) : List AV:=[.sc (.int .i64 v.up),.sc (.int .i64 v.af),.sc (.int .i64 v.at_),.sc (.bool v.one),.sc (.bool v.no)]
end Go.Proofs
