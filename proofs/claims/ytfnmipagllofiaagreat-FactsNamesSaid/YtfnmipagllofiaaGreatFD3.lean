/- Contracts of the reference: datoms sorted, may one be, how two values stand. -/
import Derived.Test.YtfnmipagllofiaaGreatFD2
namespace Go.Proofs
open Go.AL Go.Sort
attribute [local irreducible] Go.AL.W Go.AL.WL Go.AL.WD Go.AL.POp Go.AL.PPOp Go.AL.POpS Go.AL.PC Go.AL.AC Go.AL.YW Go.AL.Ret Go.AL.Le Go.AL.thn Go.AL.inBlk Go.AL.scp
noncomputable instance : DecidableEq Val := fun _ _ => Classical.propDecidable _
instance : Inhabited Val := ⟨val0⟩
instance : Inhabited Dat := ⟨dat0⟩
noncomputable instance : DecidableEq Dat := fun _ _ => Classical.propDecidable _
end Go.Proofs
