/- Contracts of index's functions: datoms added; how many; is one there. -/
import Derived.Test.YtjojdiefnhbglaaGreatYT6
import Derived.Test.YtjojdiefnhbglaaGreatOps25
import Derived.Test.YtjojdiefnhbglaaGreatOps32
import Derived.Test.YtjojdiefnhbglaaGreatOps26
import Derived.Test.YtjojdiefnhbglaaGreatOps11
set_option linter.all false
namespace Go.Proofs
open Go.AL Go.Sort
attribute [local irreducible] Go.AL.W Go.AL.WL Go.AL.WD Go.AL.POp Go.AL.PPOp Go.AL.POpS Go.AL.PC Go.AL.AC Go.AL.YW Go.AL.Ret Go.AL.Le Go.AL.thn Go.AL.inBlk Go.AL.scp
abbrev Ix:=Nat → Option Tr
def ixC (T : Ix) : List AV:=[.sc (.pointer none),oT (T 1),oT (T 2),oT (T 3),oT (T 4)]
def xA : Option Ix → AV
  | none=>.sc (.pointer none)
  | some T=>.ep (ixC T)
theorem xA_no : xA none = .sc (.pointer none):=rfl
theorem xA_so (T : Ix) : xA (some T) = .ep [.sc (.pointer none),oT (T 1),oT (T 2),oT (T 3),oT (T 4)]:=rfl
noncomputable def addT (T : Ix) (d : Dat) (o : Nat) : Option Tr:=if dkeyE o d = 0 then some (putT (dkeyB o d) [] (topT (T o))) else T o
def IxOf (L : List Dat) (T : Ix) : Prop:=∀ o : Nat,1 ≤ o → o ≤ 4 → TreeOf (o : Int) L (T o)
theorem IxOf.add {L : List Dat} {T : Ix} (h : IxOf L T) (d : Dat) (hl : L.length < 1152921504606846975) : IxOf (L ++ [d]) (addT T d):=fun o h1 h2=>by
  unfold addT
  split
  · rename_i hk;exact (h o h1 h2).put hk hl
  · rename_i hk;exact (h o h1 h2).skip hk
abbrev sl9 (l : List Dat) : AV:=.sl none 9 (l.map dC)
end Go.Proofs

namespace Go.Proofs
open Go.AL Go.Sort
end Go.Proofs

namespace Go.Proofs
open Go.AL Go.Sort
attribute [local irreducible] Go.AL.W Go.AL.WL Go.AL.WD Go.AL.POp Go.AL.PPOp Go.AL.POpS Go.AL.PC Go.AL.AC Go.AL.YW Go.AL.Ret Go.AL.Le Go.AL.thn Go.AL.inBlk Go.AL.scp
end Go.Proofs
