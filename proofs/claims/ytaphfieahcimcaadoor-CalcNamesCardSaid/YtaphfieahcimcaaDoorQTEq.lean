/- The facts on equality of structs, as instances. No condition. -/
import Derived.Test.YtaphfieahcimcaaDoorOps7
import Derived.Test.YtaphfieahcimcaaDoorQTInst
namespace Go.Proofs
open Go.AL
instance : EqF Tryd.prog 2 [.i .i64] 1 := eqf_int Tryd.underlying2 Tryd.isAgg2
instance : EqF Tryd.prog 3 [.i .i64] 1 := eqf_int Tryd.underlying3 Tryd.isAgg3
instance : EqF Tryd.prog 4 [.b] 1 := eqf_bool Tryd.underlying4 Tryd.isAgg4
instance : EqF Tryd.prog 5 [.i .u8] 1 := eqf_int Tryd.underlying5 Tryd.isAgg5
instance : EqF Tryd.prog 6 [.i .u8] 1 := eqf_int Tryd.underlying6 Tryd.isAgg6
instance : EqF Tryd.prog 9 [.s] 1 := eqf_str Tryd.underlying9 Tryd.isAgg9
instance : EqF Tryd.prog 10 [.s] 1 := eqf_str Tryd.underlying10 Tryd.isAgg10
instance : EqF Tryd.prog 11 [.s] 1 := eqf_str Tryd.underlying11 Tryd.isAgg11
instance : EqF Tryd.prog 12 [.i .u64] 1 := eqf_int Tryd.underlying12 Tryd.isAgg12
instance : EqF Tryd.prog 21 [.i .i32] 1 := eqf_int Tryd.underlying21 Tryd.isAgg21
instance : EqF Tryd.prog 28 [.i .i64, .i .i64, .s] 2 := eqf_struct Tryd.underlying28 (by kernel_rfl) Tryd.isAgg28 Tryd.sizeOf28 rfl (by repeat first | exact FldEq.nil _ | refine FldEq.cons3 (by decide) rfl (by decide) (by rfl) ?_)
instance : EqG Tryd.prog 28 := ⟨by kernel_rfl⟩
instance : EqF Tryd.prog 33 [.i .i64] 1 := eqf_int Tryd.underlying33 Tryd.isAgg33
instance : EqF Tryd.prog 43 [.i .u16] 1 := eqf_int Tryd.underlying43 Tryd.isAgg43
instance : EqF Tryd.prog 75 [.i .u64] 1 := eqf_int Tryd.underlying75 Tryd.isAgg75
instance : EqF Tryd.prog 99 [.i .i64] 1 := eqf_int Tryd.underlying99 Tryd.isAgg99
instance : EqF Tryd.prog 107 [.i .u32] 1 := eqf_int Tryd.underlying107 Tryd.isAgg107
instance : EqF Tryd.prog 109 [.i .u64] 1 := eqf_int Tryd.underlying109 Tryd.isAgg109
instance : EqF Tryd.prog 121 [.i .u64] 1 := eqf_int Tryd.underlying121 Tryd.isAgg121
instance : EqF Tryd.prog 153 [.i .i64] 1 := eqf_int Tryd.underlying153 Tryd.isAgg153
instance : EqF Tryd.prog 175 [.i .u8] 1 := eqf_int Tryd.underlying175 Tryd.isAgg175
instance : EqF Tryd.prog 176 [.i .u8] 1 := eqf_int Tryd.underlying176 Tryd.isAgg176
instance : EqF Tryd.prog 178 [.i .i32] 1 := eqf_int Tryd.underlying178 Tryd.isAgg178
instance : EqF Tryd.prog 179 [.i .i32] 1 := eqf_int Tryd.underlying179 Tryd.isAgg179
end Go.Proofs
