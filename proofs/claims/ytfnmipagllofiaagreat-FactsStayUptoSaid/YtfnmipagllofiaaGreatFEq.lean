/- The facts on equality of structs, as instances. No condition. -/
import Derived.Test.YtfnmipagllofiaaGreatOps7
import Derived.Test.YtfnmipagllofiaaGreatFInst
namespace Go.Proofs
open Go.AL
instance : EqF Tryz.prog 2 [.i .i64] 1 := eqf_int Tryz.underlying2 Tryz.isAgg2
instance : EqF Tryz.prog 3 [.i .i64] 1 := eqf_int Tryz.underlying3 Tryz.isAgg3
instance : EqF Tryz.prog 4 [.b] 1 := eqf_bool Tryz.underlying4 Tryz.isAgg4
instance : EqF Tryz.prog 5 [.i .u8] 1 := eqf_int Tryz.underlying5 Tryz.isAgg5
instance : EqF Tryz.prog 6 [.i .u8] 1 := eqf_int Tryz.underlying6 Tryz.isAgg6
instance : EqF Tryz.prog 9 [.s] 1 := eqf_str Tryz.underlying9 Tryz.isAgg9
instance : EqF Tryz.prog 10 [.s] 1 := eqf_str Tryz.underlying10 Tryz.isAgg10
instance : EqF Tryz.prog 11 [.s] 1 := eqf_str Tryz.underlying11 Tryz.isAgg11
instance : EqF Tryz.prog 12 [.i .u64] 1 := eqf_int Tryz.underlying12 Tryz.isAgg12
instance : EqF Tryz.prog 21 [.i .i32] 1 := eqf_int Tryz.underlying21 Tryz.isAgg21
instance : EqF Tryz.prog 25 [.i .i64] 1 := eqf_int Tryz.underlying25 Tryz.isAgg25
instance : EqF Tryz.prog 39 [.i .i64, .i .i64, .s] 2 := eqf_struct Tryz.underlying39 (by kernel_rfl) Tryz.isAgg39 Tryz.sizeOf39 rfl (by repeat first | exact FldEq.nil _ | refine FldEq.cons3 (by decide) rfl (by decide) (by rfl) ?_)
instance : EqG Tryz.prog 39 := ⟨by kernel_rfl⟩
instance : EqF Tryz.prog 52 [.i .i64, .i .i64, .i .i64, .i .i64, .s, .i .i64, .b, .i .i64, .i .i64] 3 := eqf_struct Tryz.underlying52 (by kernel_rfl) Tryz.isAgg52 Tryz.sizeOf52 rfl (by repeat first | exact FldEq.nil _ | refine FldEq.cons3 (by decide) rfl (by decide) (by rfl) ?_)
instance : EqG Tryz.prog 52 := ⟨by kernel_rfl⟩
instance : EqF Tryz.prog 57 [.i .i64, .i .i64, .i .i64, .b, .b] 2 := eqf_struct Tryz.underlying57 (by kernel_rfl) Tryz.isAgg57 Tryz.sizeOf57 rfl (by repeat first | exact FldEq.nil _ | refine FldEq.cons3 (by decide) rfl (by decide) (by rfl) ?_)
instance : EqG Tryz.prog 57 := ⟨by kernel_rfl⟩
instance : EqF Tryz.prog 69 [.i .i64, .i .i64] 2 := eqf_struct Tryz.underlying69 (by kernel_rfl) Tryz.isAgg69 Tryz.sizeOf69 rfl (by repeat first | exact FldEq.nil _ | refine FldEq.cons3 (by decide) rfl (by decide) (by rfl) ?_)
instance : EqG Tryz.prog 69 := ⟨by kernel_rfl⟩
instance : EqF Tryz.prog 109 [.i .u64] 1 := eqf_int Tryz.underlying109 Tryz.isAgg109
instance : EqF Tryz.prog 132 [.b, .i .i64, .i .i64, .i .i64, .s] 3 := eqf_struct Tryz.underlying132 (by kernel_rfl) Tryz.isAgg132 Tryz.sizeOf132 rfl (by repeat first | exact FldEq.nil _ | refine FldEq.cons3 (by decide) rfl (by decide) (by rfl) ?_)
instance : EqG Tryz.prog 132 := ⟨by kernel_rfl⟩
instance : EqF Tryz.prog 143 [.i .i64] 1 := eqf_int Tryz.underlying143 Tryz.isAgg143
instance : EqF Tryz.prog 150 [.i .u32] 1 := eqf_int Tryz.underlying150 Tryz.isAgg150
instance : EqF Tryz.prog 152 [.i .u64] 1 := eqf_int Tryz.underlying152 Tryz.isAgg152
instance : EqF Tryz.prog 163 [.i .u64] 1 := eqf_int Tryz.underlying163 Tryz.isAgg163
instance : EqF Tryz.prog 190 [.i .u8] 1 := eqf_int Tryz.underlying190 Tryz.isAgg190
instance : EqF Tryz.prog 191 [.i .u8] 1 := eqf_int Tryz.underlying191 Tryz.isAgg191
instance : EqF Tryz.prog 194 [.i .i32] 1 := eqf_int Tryz.underlying194 Tryz.isAgg194
instance : EqF Tryz.prog 195 [.i .i32] 1 := eqf_int Tryz.underlying195 Tryz.isAgg195
end Go.Proofs
