/- Contracts of the document's sets of instants: Set, In, ends. -/
import Derived.Test.YtfnmipagllofiaaGreatOps25
import Derived.Test.YtfnmipagllofiaaGreatPSp2
import Derived.Test.YtfnmipagllofiaaGreatPS1
namespace Go.Proofs
open Go.AL Go.Sort
attribute [local irreducible] Go.AL.W Go.AL.WL Go.AL.WD Go.AL.POp Go.AL.PPOp Go.AL.POpS Go.AL.PC Go.AL.AC Go.AL.YW Go.AL.Ret Go.AL.Le Go.AL.thn Go.AL.inBlk Go.AL.scp
end Go.Proofs
