/- Rules of the abstract logic: sorting in place under an order that does not part all. No condition. -/
import Derived.Test.YtjojdiefnhbglaaOps12
import Derived.Test.YtjojdiefnhbglaaOps21
import Derived.Shelf.Spec.SlicesGrow
import Derived.Test.YtjojdiefnhbglaaOps7
set_option linter.all false
namespace Go.AL
open Go.Proofs (Enters ltOf)
open Go.Sort (SWO HoldsK putRowK putRow mapBlock putCells Holds)
section
variable {α : Type} [Inhabited α]
end
end Go.AL

namespace Go.AL
end Go.AL

namespace Go.AL
section
variable {P : Program} [GlobF P] {ty : TypeId} {pos : String} {af : Array Edge} {dst : Option Nat} {gd : Option (Nat × Bool)} {ρ : Operand → Option AV}
end
section
variable {P : Program} [GlobF P] {fr : Option Nat} {N : Nat} {Q : Exit → AS → Prop} {ops : Array Oper} {rest : List Oper} {rg : List (Nat × AV)} {h : List AObj} {mk : Mk} {ty : TypeId} {pos : String} {af : Array Edge} {s : AS}
theorem NoAbove.own {B : Base P} {G : Gh} {a : Act} {w : World} {st : AS} (hR : R B N G st a w) {n : Nat} (hn : st.marks.n0 ≤ n) : NoAbove B.g0 n:=fun r hr=>hR.own r (Nat.le_trans hn hr)
theorem R.cutN {B : Base P} {G : Gh} {a : Act} {w : World} {rg : List (Nat × AV)} {h ex : List AObj} {mk : Mk} (hR : R B N G ⟨rg,h ++ ex,mk⟩ a w) (hn : mk.n0 ≤ h.length) (hb : BdH h) (hg : ∀ t,BdA h.length (look rg t)) (hm : ∀ r,r ∈ mk.l → r < h.length) :
    R B N (cutN G h.length) ⟨rg,h,mk⟩ a w:=by
  refine ⟨hR.heap.cutN hb (NoAbove.own hR hn),hR.size,fun t=>(hR.regs t).cutN (hg t),⟨hR.defers.1,fun i d r hd hr=>?_⟩,hR.own⟩
  obtain ⟨b,e1,e2⟩:=hR.defers.2 i d r hd hr
  exact ⟨b,(if_pos (hm r (List.mem_of_getElem? hr))).trans e1,e2⟩
end
end Go.AL
