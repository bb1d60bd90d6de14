/- The facts on equality of structs, as instances. No condition. -/
import Derived.Test.YtaphfieahcimcaaGreatDoorOps7
import Derived.Test.YtaphfieahcimcaaGreatDoorZQTInst
namespace Go.Proofs
open Go.AL
instance : EqF Tryz.prog 2 [.i .i64] 1 := eqf_int Tryz.underlying2 Tryz.isAgg2
instance : EqF Tryz.prog 3 [.i .i64] 1 := eqf_int Tryz.underlying3 Tryz.isAgg3
instance : EqF Tryz.prog 4 [.b] 1 := eqf_bool Tryz.underlying4 Tryz.isAgg4
instance : EqF Tryz.prog 5 [.i .u8] 1 := eqf_int Tryz.underlying5 Tryz.isAgg5
instance : EqF Tryz.prog 6 [.i .u8] 1 := eqf_int Tryz.underlying6 Tryz.isAgg6
instance : EqF Tryz.prog 9 [.s] 1 := eqf_str Tryz.underlying9 Tryz.isAgg9
instance : EqF Tryz.prog 10 [.s] 1 := eqf_str Tryz.underlying10 Tryz.isAgg10
instance : EqF Tryz.prog 11 [.s] 1 := eqf_str Tryz.underlying11 Tryz.isAgg11
instance : EqF Tryz.prog 12 [.i .u64] 1 := eqf_int Tryz.underlying12 Tryz.isAgg12
instance : EqF Tryz.prog 21 [.i .i32] 1 := eqf_int Tryz.underlying21 Tryz.isAgg21
instance : EqF Tryz.prog 25 [.i .i64, .i .i64, .s] 2 := eqf_struct Tryz.underlying25 (by kernel_rfl) Tryz.isAgg25 Tryz.sizeOf25 rfl (by repeat first | exact FldEq.nil _ | refine FldEq.cons3 (by decide) rfl (by decide) (by rfl) ?_)
instance : EqG Tryz.prog 25 := ⟨by kernel_rfl⟩
instance : EqF Tryz.prog 26 [.i .i64] 1 := eqf_int Tryz.underlying26 Tryz.isAgg26
instance : EqF Tryz.prog 83 [.i .u64] 1 := eqf_int Tryz.underlying83 Tryz.isAgg83
instance : EqF Tryz.prog 96 [.i .u64] 1 := eqf_int Tryz.underlying96 Tryz.isAgg96
instance : EqF Tryz.prog 111 [.i .u32] 1 := eqf_int Tryz.underlying111 Tryz.isAgg111
instance : EqF Tryz.prog 118 [.i .i64] 1 := eqf_int Tryz.underlying118 Tryz.isAgg118
instance : EqF Tryz.prog 140 [.i .u8] 1 := eqf_int Tryz.underlying140 Tryz.isAgg140
instance : EqF Tryz.prog 141 [.i .u8] 1 := eqf_int Tryz.underlying141 Tryz.isAgg141
instance : EqF Tryz.prog 143 [.i .i32] 1 := eqf_int Tryz.underlying143 Tryz.isAgg143
instance : EqF Tryz.prog 144 [.i .i32] 1 := eqf_int Tryz.underlying144 Tryz.isAgg144
end Go.Proofs
