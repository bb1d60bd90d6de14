/- Contracts of tree's functions: the nodes from a key on, told one by one. -/
import Derived.Test.YtjojdiefnhbglaaGreatYT6
import Derived.Test.YtjojdiefnhbglaaGreatOps25
import Derived.Test.YtjojdiefnhbglaaGreatOps26
import Derived.Test.YtjojdiefnhbglaaGreatYI1
import Derived.Test.YtjojdiefnhbglaaGreatYD3
set_option linter.all false
namespace Go.Proofs
open Go.AL Go.Sort
attribute [local irreducible] Go.AL.W Go.AL.WL Go.AL.WD Go.AL.POp Go.AL.PPOp Go.AL.POpS Go.AL.PC Go.AL.AC Go.AL.YW Go.AL.Ret Go.AL.Le Go.AL.thn Go.AL.inBlk Go.AL.scp
structure Teller [GlobF Tryz.prog] (l : Nat) (D : List Tr → Tr → Prop) (Base Fin : List Tr → List AObj) (ok : List Tr → Prop) (c : Tr → Bool) (n0 : Nat) : Prop where
  bl : ∀ o,(Base o).length = n0
  fl : ∀ o,(Fin o).length = n0
  y : ∀ (o : List Tr) (p : Tr) (ex : List AObj),ok o → D o p → YW Tryz.prog l [tA p] (Base o ++ ex) (fun b h'=>(b = true ∧ c p = true ∧ ok (o ++ [p]) ∧ ∃ ex',h' = Base (o ++ [p]) ++ ex ++ ex') ∨ (b = false ∧ c p = false ∧ ∃ ex',h' = Fin o ++ ex ++ ex'))
end Go.Proofs

namespace Go.Proofs
open Go.AL Go.Sort
attribute [local irreducible] Go.AL.W Go.AL.WL Go.AL.WD Go.AL.POp Go.AL.PPOp Go.AL.POpS Go.AL.PC Go.AL.AC Go.AL.YW Go.AL.Ret Go.AL.Le Go.AL.thn Go.AL.inBlk Go.AL.scp
end Go.Proofs

namespace Go.Proofs
open Go.AL Go.Sort
attribute [local irreducible] Go.AL.W Go.AL.WL Go.AL.WD Go.AL.POp Go.AL.PPOp Go.AL.POpS Go.AL.PC Go.AL.AC Go.AL.YW Go.AL.Ret Go.AL.Le Go.AL.thn Go.AL.inBlk Go.AL.scp
theorem pur_xA (x : Option Ix) : Pur (xA x):=by
  cases x with
  | none=>rw [xA_no];infer_instance
  | some T=>rw [xA_so];infer_instance
instance (x : Option Ix) : Pur (xA x):=pur_xA x
end Go.Proofs

namespace Go.Proofs
open Go.AL Go.Sort
attribute [local irreducible] Go.AL.W Go.AL.WL Go.AL.WD Go.AL.POp Go.AL.PPOp Go.AL.POpS Go.AL.PC Go.AL.AC Go.AL.YW Go.AL.Ret Go.AL.Le Go.AL.thn Go.AL.inBlk Go.AL.scp
end Go.Proofs

namespace Go.Proofs
open Go.AL Go.Sort
attribute [local irreducible] Go.AL.W Go.AL.WL Go.AL.WD Go.AL.POp Go.AL.PPOp Go.AL.POpS Go.AL.PC Go.AL.AC Go.AL.YW Go.AL.Ret Go.AL.Le Go.AL.thn Go.AL.inBlk Go.AL.scp
end Go.Proofs
