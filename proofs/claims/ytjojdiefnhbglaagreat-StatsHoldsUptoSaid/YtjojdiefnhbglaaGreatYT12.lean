/- Contracts of tree's functions: a range of pairs. -/
import Derived.Test.YtjojdiefnhbglaaGreatYT8
import Derived.Test.YtjojdiefnhbglaaGreatOps26
import Derived.Test.YtjojdiefnhbglaaGreatYI1
set_option linter.all false
namespace Go.Proofs
open Go.AL Go.Sort
attribute [local irreducible] Go.AL.W Go.AL.WL Go.AL.WD Go.AL.POp Go.AL.PPOp Go.AL.POpS Go.AL.PC Go.AL.AC Go.AL.YW Go.AL.Ret Go.AL.Le Go.AL.thn Go.AL.inBlk Go.AL.scp
end Go.Proofs

namespace Go.Proofs
open Go.AL Go.Sort
attribute [local irreducible] Go.AL.W Go.AL.WL Go.AL.WD Go.AL.POp Go.AL.PPOp Go.AL.POpS Go.AL.PC Go.AL.AC Go.AL.YW Go.AL.Ret Go.AL.Le Go.AL.thn Go.AL.inBlk Go.AL.scp
theorem pur_xA (x : Option Ix) : Pur (xA x):=by
  cases x with
  | none=>rw [xA_no];infer_instance
  | some T=>rw [xA_so];infer_instance
instance (x : Option Ix) : Pur (xA x):=pur_xA x
end Go.Proofs

namespace Go.Proofs
open Go.AL Go.Sort
attribute [local irreducible] Go.AL.W Go.AL.WL Go.AL.WD Go.AL.POp Go.AL.PPOp Go.AL.POpS Go.AL.PC Go.AL.AC Go.AL.YW Go.AL.Ret Go.AL.Le Go.AL.thn Go.AL.inBlk Go.AL.scp
end Go.Proofs
