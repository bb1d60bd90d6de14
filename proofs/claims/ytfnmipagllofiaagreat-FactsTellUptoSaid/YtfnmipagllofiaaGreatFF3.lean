/- The plain law of facts: groups of datoms, what they say, what a fold is. -/
import Derived.Test.YtfnmipagllofiaaGreatFD2
import Derived.Test.YtfnmipagllofiaaGreatFS5
import Derived.Test.YtfnmipagllofiaaGreatOps25
import Derived.Test.YtfnmipagllofiaaGreatOps26
namespace Go.Proofs
open Go.AL Go.Sort
structure Fac where
  e : Int
  a : Int
  v : Val
  sp : List Sp
abbrev fC (f : Fac) : List AV := [.sc (.int .i64 f.e), .sc (.int .i64 f.a), .sc (.int .i64 f.v.kind), .sc (.int .i64 f.v.n), str f.v.s, sl2 f.sp]
abbrev sl9 (l : List Dat) : AV := .sl none 9 (l.map dC)
abbrev sl6 (l : List Fac) : AV := .sl none 6 (l.map fC)
def alP (a b : Dat) : Prop := a.e = b.e ∧ a.a = b.a ∧ a.v = b.v
end Go.Proofs

namespace Go.Proofs
open Go.AL Go.Sort
attribute [local irreducible] Go.AL.W Go.AL.WL Go.AL.WD Go.AL.POp Go.AL.PPOp Go.AL.POpS Go.AL.PC Go.AL.AC Go.AL.YW Go.AL.Ret Go.AL.Le Go.AL.thn Go.AL.inBlk Go.AL.scp
theorem encV_eq {a b : Val} : [Value.int IntKind.i64 a.kind, Value.int IntKind.i64 a.n, Value.string ⟨a.s.toArray⟩] = [Value.int IntKind.i64 b.kind, Value.int IntKind.i64 b.n, Value.string ⟨b.s.toArray⟩] ↔ a = b := by
  constructor
  · intro h
    obtain ⟨k, n, s⟩ := a
    obtain ⟨k', n', s'⟩ := b
    simp at h
    obtain ⟨h1, h2, h3⟩ := h
    subst h1; subst h2; subst h3; rfl
  · rintro rfl; rfl
end Go.Proofs

namespace Go.Proofs
open Go.AL Go.Sort
attribute [local irreducible] Go.AL.W Go.AL.WL Go.AL.WD Go.AL.POp Go.AL.PPOp Go.AL.POpS Go.AL.PC Go.AL.AC Go.AL.YW Go.AL.Ret Go.AL.Le Go.AL.thn Go.AL.inBlk Go.AL.scp
end Go.Proofs

namespace Go.Proofs
open Go.AL Go.Sort
attribute [local irreducible] Go.AL.W Go.AL.WL Go.AL.WD Go.AL.POp Go.AL.PPOp Go.AL.POpS Go.AL.PC Go.AL.AC Go.AL.YW Go.AL.Ret Go.AL.Le Go.AL.thn Go.AL.inBlk Go.AL.scp
end Go.Proofs
