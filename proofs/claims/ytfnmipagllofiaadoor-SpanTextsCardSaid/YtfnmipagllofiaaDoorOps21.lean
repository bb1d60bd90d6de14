/- The rules of the abstract logic: rows of one's own that grow, and may be written. No condition. -/
import Derived.Test.YtfnmipagllofiaaDoorUEq
import Derived.Test.YtfnmipagllofiaaDoorOps11
import Derived.Test.YtfnmipagllofiaaDoorOps17
namespace Go.AL
abbrev rowA (r n : Nat) : AV := .sl (some r) 0 (List.replicate n [])
theorem rowA_mk {G : Gh} {b o cap r n : Nat} (hl : G.tl r n = some (.slice (some ⟨b, o, none⟩) n cap)) (hn : n ≤ cap) : Conc G (.slice (some ⟨b, o, none⟩) n cap) (rowA r n) := by
  have := Conc.sl (G := G) (b := b) (o := o) (cap := cap) (k := 0) (tok := some r) (els := List.replicate n []) (fun _ _ => undef) (fun e he => by rw [List.eq_of_mem_replicate he]; rfl) (by simpa using hn)
    (fun i j _ hj => by omega) (fun i e j x he hx => by
      rw [List.getElem?_replicate] at he
      split at he
      · cases he; simp at hx
      · cases he) (fun t e => by cases e; simpa using hl)
  rwa [List.length_replicate] at this
section
variable {P : Program} [GlobF P] {hp : List AObj}
end
section
variable {P : Program} [GlobF P] {ty : TypeId} {pos : String} {af : Array Edge} {dst : Option Nat} {gd : Option (Nat × Bool)} {ρ : Operand → Option AV} {hp : List AObj}
end
section
variable {P : Program} [GlobF P] {fr : Option Nat} {N : Nat} {Q : Exit → AS → Prop} {ops : Array Oper} {rest : List Oper} {rg : List (Nat × AV)} {h : List AObj} {mk : Mk} {ty : TypeId} {pos : String} {af : Array Edge} {d : Nat}
end
instance (n : Nat) : PurLL (List.replicate n ([] : List AV)) := ⟨fun e he => by rw [List.eq_of_mem_replicate he]; infer_instance⟩
end Go.AL

namespace Go.AL
open Go.Proofs (Enters ltOf)
open Go.Sort (SWO HoldsK putRowK putRow mapBlock putCells Holds)
section
variable {α : Type} [Inhabited α]
end
end Go.AL
