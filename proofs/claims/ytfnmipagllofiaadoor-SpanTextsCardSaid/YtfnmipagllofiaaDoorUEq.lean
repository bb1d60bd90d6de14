/- The facts on equality of structs, as instances. No condition. -/
import Derived.Test.YtfnmipagllofiaaDoorOps7
import Derived.Test.YtfnmipagllofiaaDoorUInst
import Derived.Test.YtfnmipagllofiaaDoorOps11
import Derived.Shelf.SlSortCmp.NoneTotal
import Derived.Laws.Cover3
namespace Go.Proofs
open Go.AL
instance : EqF Tryd.prog 2 [.i .i64] 1 := eqf_int Tryd.underlying2 Tryd.isAgg2
instance : EqF Tryd.prog 3 [.i .i64] 1 := eqf_int Tryd.underlying3 Tryd.isAgg3
instance : EqF Tryd.prog 4 [.b] 1 := eqf_bool Tryd.underlying4 Tryd.isAgg4
instance : EqF Tryd.prog 5 [.i .u8] 1 := eqf_int Tryd.underlying5 Tryd.isAgg5
instance : EqF Tryd.prog 6 [.i .u8] 1 := eqf_int Tryd.underlying6 Tryd.isAgg6
instance : EqF Tryd.prog 9 [.s] 1 := eqf_str Tryd.underlying9 Tryd.isAgg9
instance : EqF Tryd.prog 10 [.s] 1 := eqf_str Tryd.underlying10 Tryd.isAgg10
instance : EqF Tryd.prog 11 [.s] 1 := eqf_str Tryd.underlying11 Tryd.isAgg11
instance : EqF Tryd.prog 12 [.i .u64] 1 := eqf_int Tryd.underlying12 Tryd.isAgg12
instance : EqF Tryd.prog 21 [.i .i32] 1 := eqf_int Tryd.underlying21 Tryd.isAgg21
instance : EqF Tryd.prog 23 [.i .i64] 1 := eqf_int Tryd.underlying23 Tryd.isAgg23
instance : EqF Tryd.prog 38 [.i .i64, .i .i64] 2 := eqf_struct Tryd.underlying38 (by kernel_rfl) Tryd.isAgg38 Tryd.sizeOf38 rfl (by repeat first | exact FldEq.nil _ | refine FldEq.cons3 (by decide) rfl (by decide) (by rfl) ?_)
instance : EqG Tryd.prog 38 := ⟨by kernel_rfl⟩
instance : EqF Tryd.prog 80 [.i .u64] 1 := eqf_int Tryd.underlying80 Tryd.isAgg80
instance : EqF Tryd.prog 93 [.i .u64] 1 := eqf_int Tryd.underlying93 Tryd.isAgg93
instance : EqF Tryd.prog 94 [.i .i64] 1 := eqf_int Tryd.underlying94 Tryd.isAgg94
instance : EqF Tryd.prog 105 [.i .u32] 1 := eqf_int Tryd.underlying105 Tryd.isAgg105
instance : EqF Tryd.prog 117 [.i .i64] 1 := eqf_int Tryd.underlying117 Tryd.isAgg117
instance : EqF Tryd.prog 132 [.i .u64] 1 := eqf_int Tryd.underlying132 Tryd.isAgg132
instance : EqF Tryd.prog 149 [.i .u8] 1 := eqf_int Tryd.underlying149 Tryd.isAgg149
instance : EqF Tryd.prog 150 [.i .u8] 1 := eqf_int Tryd.underlying150 Tryd.isAgg150
instance : EqF Tryd.prog 152 [.i .i32] 1 := eqf_int Tryd.underlying152 Tryd.isAgg152
instance : EqF Tryd.prog 153 [.i .i32] 1 := eqf_int Tryd.underlying153 Tryd.isAgg153
end Go.Proofs

namespace Go.AL
open Go.Proofs (Enters ltOf)
open Go.Sort (SWO HoldsK putRowK putRow mapBlock putCells Holds)
section
variable {α : Type} [Inhabited α]
end
end Go.AL

namespace Go.AL
section
variable {P : Program} [GlobF P] {ty : TypeId} {pos : String} {af : Array Edge} {dst : Option Nat} {gd : Option (Nat × Bool)} {ρ : Operand → Option AV} {hp : List AObj}
end
section
variable {P : Program} [GlobF P] {fr : Option Nat} {N : Nat} {Q : Exit → AS → Prop} {ops : Array Oper} {rest : List Oper} {rg : List (Nat × AV)} {h : List AObj} {mk : Mk} {ty : TypeId} {pos : String} {af : Array Edge} {d : Nat}
end
end Go.AL
