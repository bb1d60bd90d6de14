/- The rules of the abstract logic, ninth part: structs built; results; slices of slices; appending to a tail of one's own; ghosts that are let go. No condition. -/
import Derived.Test.YthofnclbbjemfaaDoorMem
import Derived.Laws.OwnMore
import Derived.Laws.Slices
set_option linter.all false
namespace Go.AL
class Inf (P : Program) (t : TypeId) (k by_ : outParam Nat) (z : outParam Value) : Prop where
  h : ∃ i,P.info? t = some i ∧ i.size = k ∧ i.bytes = by_ ∧ i.zero = some z
theorem inf_of {P : Program} {t : TypeId} {k b : Nat} {z : Value} (h : (P.info? t).map (fun i=>(i.zero,i.size,i.bytes)) = some (some z,k,b)) : ∃ i,P.info? t = some i ∧ i.size = k ∧ i.bytes = b ∧ i.zero = some z:=by
  cases hi : P.info? t with
  | none=>rw [hi] at h;cases h
  | some i=>rw [hi] at h;simp only [Option.map_some,Option.some.injEq,Prod.mk.injEq] at h;exact ⟨i,rfl,h.2.1,h.2.2,h.1⟩
class Plc (P : Program) (t : TypeId) (ps : outParam (List (Nat × Nat))) : Prop where
  h : ∃ fields : Array Field,(∀ w,(underlying t).run P w = .ok (.struct fields) w) ∧ ∀ w,(fields.mapM fun f=>do pure (f.offset,← sizeOf f.type) : Sem (Array (Nat × Nat))).run P w = .ok ps.toArray w
section
variable {P : Program} [GlobF P] {ty : TypeId} {pos : String} {af : Array Edge} {dst : Option Nat} {gd : Option (Nat × Bool)} {ρ : Operand → Option AV} {hp : List AObj}
end
end Go.AL
