/- Contracts of the document's reader of texts: nodes, by descent. -/
import Derived.Test.YtnjnjbombcefcaaDoorCP4
import Derived.Test.YtnjnjbombcefcaaDoorPTx
import Derived.Test.YtnjnjbombcefcaaDoorPTx4
import Derived.Test.YtnjnjbombcefcaaDoorOps46
set_option linter.all false
namespace Go.Proofs.Rd
open Go.AL Go.Txt
attribute [local irreducible] Go.AL.W Go.AL.WL Go.AL.WD Go.AL.POp Go.AL.PPOp Go.AL.POpS Go.AL.PC Go.AL.AC Go.AL.YW Go.AL.Ret Go.AL.Le Go.AL.thn Go.AL.inBlk Go.AL.scp
abbrev nilV : AV:=.sc (.slice none 0 0)
abbrev tN : Nat:=35
structure Keep (p : Nat) (h h' : List AObj) : Prop where
  len : h.length ≤ h'.length
  fr : ∀ i,i < h.length → i ≠ p → h'[i]? = h[i]?
theorem Keep.refl (p : Nat) (h : List AObj) : Keep p h h:=⟨Nat.le_refl _,fun _ _ _=>rfl⟩
theorem Keep.trans {p : Nat} {h h' h'' : List AObj} (a : Keep p h h') (b : Keep p h' h'') : Keep p h h'':=⟨Nat.le_trans a.len b.len,fun i hi hp=>(b.fr i (Nat.lt_of_lt_of_le hi a.len) hp).trans (a.fr i hi hp)⟩
structure RS where
  acc : List Nd
  i : Nat
  m : Nat
  f : Nat
  er : Option Nat
  h : List AObj
end Go.Proofs.Rd
