/- Contracts of the document's reader of texts: one node. -/
import Derived.Test.YtnjnjbombcefcaaDoorCX6
set_option linter.all false
namespace Go.Proofs.Rd
open Go.AL Go.Txt
attribute [local irreducible] Go.AL.W Go.AL.WL Go.AL.WD Go.AL.POp Go.AL.PPOp Go.AL.POpS Go.AL.PC Go.AL.AC Go.AL.YW Go.AL.Ret Go.AL.Le Go.AL.thn Go.AL.inBlk Go.AL.scp
theorem Keep.app {p : Nat} {h h' : List AObj} (a : Keep p h h') (o : AObj) : Keep p h (h' ++ [o]):=⟨by rw [List.length_append];exact Nat.le_trans a.len (Nat.le_add_right _ _),fun i hi hp=>(List.getElem?_append_left (Nat.lt_of_lt_of_le hi a.len)).trans (a.fr i hi hp)⟩
theorem Keep.set {p : Nat} {h h' : List AObj} (a : Keep p h h') {j : Nat} (hj : j = p ∨ h.length ≤ j) (o : AObj) : Keep p h (h'.set j o):=⟨by rw [List.length_set];exact a.len,fun i hi hp=>(List.getElem?_set_ne (by omega)).trans (a.fr i hi hp)⟩
end Go.Proofs.Rd
