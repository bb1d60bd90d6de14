/- Rules of the abstract logic: a row sorted in place whose elements hold slices (no two stand alike). No condition. -/
import Derived.Test.YtjojdiefnhbglaaGreatOps12
set_option linter.all false
namespace Go.AL
open Go.Proofs (Enters ltOf)
open Go.Sort (SWO HoldsK putRowK putRow mapBlock putCells Holds)
theorem ConcL.one {G : Gh} : ∀ {vs : List Value} {xs : List AV},ConcL G vs xs → (∀ x,x ∈ xs → x.one = true) → ∀ v,v ∈ vs → v.oneCell' = true
  | [],_,_,_,v,hv=>by cases hv
  | u :: us,[],h,_,_,_=>by have:=h.1;simp at this
  | u :: us,x :: xs,h,ho,v,hv=>by
    obtain ⟨u',us',e,h1,h2⟩:=h.inv_cons
    cases e
    rcases List.mem_cons.1 hv with rfl|hv
    · exact AV.one_ok h1 (ho x (.head _))
    · exact ConcL.one h2 (fun y hy=>ho y (.tail _ hy)) v hv
section
theorem ConcL.flat {β : Type} {G : Gh} {enc : β → List Value} {g : β → List AV} (h : ∀ b,ConcL G (enc b) (g b)) : ∀ m : List β,ConcL G ((m.map enc).flatten) ((m.map g).flatten)
  | []=>.nil _
  | b :: m=>by simp only [List.map_cons,List.flatten_cons];exact ConcL.append (h b) (ConcL.flat h m)
def allF (n : Nat) : List (Fin n):=List.ofFn fun i=>i
variable {α : Type}
end
end Go.AL
