/- The rules of the abstract logic: rows of one's own that grow, and may be written. No condition. -/
import Derived.Test.YtjojdiefnhbglaaOps11
import Derived.Test.YtjojdiefnhbglaaOps17
namespace Go.AL
section
variable {P : Program} [GlobF P] {hp : List AObj}
end
section
variable {P : Program} [GlobF P] {ty : TypeId} {pos : String} {af : Array Edge} {dst : Option Nat} {gd : Option (Nat × Bool)} {ρ : Operand → Option AV} {hp : List AObj}
end
section
variable {P : Program} [GlobF P] {fr : Option Nat} {N : Nat} {Q : Exit → AS → Prop} {ops : Array Oper} {rest : List Oper} {rg : List (Nat × AV)} {h : List AObj} {mk : Mk} {ty : TypeId} {pos : String} {af : Array Edge} {d : Nat}
end
instance (n : Nat) : PurLL (List.replicate n ([] : List AV)) := ⟨fun e he => by rw [List.eq_of_mem_replicate he]; infer_instance⟩
end Go.AL
