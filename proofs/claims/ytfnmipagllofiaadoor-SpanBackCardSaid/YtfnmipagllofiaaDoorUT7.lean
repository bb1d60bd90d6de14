/- Contracts of spans' texts: a set's text, and what a text says, in the document. -/
import Derived.Test.YtfnmipagllofiaaDoorUT6
namespace Go.Proofs
open Go.AL
attribute [local irreducible] Go.AL.W Go.AL.WL Go.AL.WD Go.AL.POp Go.AL.PPOp Go.AL.POpS Go.AL.PC Go.AL.AC Go.AL.YW Go.AL.Ret Go.AL.Le Go.AL.thn Go.AL.inBlk Go.AL.scp
end Go.Proofs
