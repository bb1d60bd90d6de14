/- Contracts of the next datom, in the index and in the document; of the document's adding. -/
import Derived.Test.YtjojdiefnhbglaaEI3
import Derived.Test.YtjojdiefnhbglaaED3
namespace Go.Proofs
open Go.AL Go.Sort
attribute [local irreducible] Go.AL.W Go.AL.WL Go.AL.WD Go.AL.POp Go.AL.PPOp Go.AL.POpS Go.AL.PC Go.AL.AC Go.AL.YW Go.AL.Ret Go.AL.Le Go.AL.thn Go.AL.inBlk Go.AL.scp
end Go.Proofs
