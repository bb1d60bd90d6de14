/- The facts on equality of structs, as instances. No condition. -/
import Derived.Test.YtnjnjbombcefcaaDoorOps7
import Derived.Test.YtnjnjbombcefcaaDoorCDInst
namespace Go.Proofs
open Go.AL
instance : EqF Tryd.prog 2 [.i .i64] 1 := eqf_int Tryd.underlying2 Tryd.isAgg2
instance : EqF Tryd.prog 3 [.i .i64] 1 := eqf_int Tryd.underlying3 Tryd.isAgg3
instance : EqF Tryd.prog 4 [.b] 1 := eqf_bool Tryd.underlying4 Tryd.isAgg4
instance : EqF Tryd.prog 5 [.i .u8] 1 := eqf_int Tryd.underlying5 Tryd.isAgg5
instance : EqF Tryd.prog 6 [.i .u8] 1 := eqf_int Tryd.underlying6 Tryd.isAgg6
instance : EqF Tryd.prog 9 [.s] 1 := eqf_str Tryd.underlying9 Tryd.isAgg9
instance : EqF Tryd.prog 10 [.s] 1 := eqf_str Tryd.underlying10 Tryd.isAgg10
instance : EqF Tryd.prog 11 [.s] 1 := eqf_str Tryd.underlying11 Tryd.isAgg11
instance : EqF Tryd.prog 12 [.i .u64] 1 := eqf_int Tryd.underlying12 Tryd.isAgg12
instance : EqF Tryd.prog 21 [.i .i32] 1 := eqf_int Tryd.underlying21 Tryd.isAgg21
instance : EqF Tryd.prog 23 [.i .i64] 1 := eqf_int Tryd.underlying23 Tryd.isAgg23
instance : EqF Tryd.prog 33 [.i .i64, .i .i64, .s] 2 := eqf_struct Tryd.underlying33 (by kernel_rfl) Tryd.isAgg33 Tryd.sizeOf33 rfl (by repeat first | exact FldEq.nil _ | refine FldEq.cons3 (by decide) rfl (by decide) (by rfl) ?_)
instance : EqG Tryd.prog 33 := ⟨by kernel_rfl⟩
instance : EqF Tryd.prog 41 [.i .i64, .i .i64, .s, .i .i64, .i .i64, .s] 3 := eqf_struct Tryd.underlying41 (by kernel_rfl) Tryd.isAgg41 Tryd.sizeOf41 rfl (by repeat first | exact FldEq.nil _ | refine FldEq.cons3 (by decide) rfl (by decide) (by rfl) ?_)
instance : EqG Tryd.prog 41 := ⟨by kernel_rfl⟩
instance : EqF Tryd.prog 43 [.b, .i .i64, .i .i64, .s, .i .i64, .i .i64, .s, .i .i64, .i .i64, .s] 4 := eqf_struct Tryd.underlying43 (by kernel_rfl) Tryd.isAgg43 Tryd.sizeOf43 rfl (by repeat first | exact FldEq.nil _ | refine FldEq.cons3 (by decide) rfl (by decide) (by rfl) ?_)
instance : EqG Tryd.prog 43 := ⟨by kernel_rfl⟩
instance : EqF Tryd.prog 45 [.i .i64, .i .i64, .i .i64, .s, .i .i64, .i .i64, .s, .s, .b, .i .i64, .i .i64, .s, .i .i64, .i .i64, .s, .i .i64, .i .i64, .s, .b, .i .i64, .i .i64, .s, .i .i64, .i .i64, .s, .i .i64, .i .i64, .s, .i .i64, .i .i64] 5 := eqf_struct Tryd.underlying45 (by kernel_rfl) Tryd.isAgg45 Tryd.sizeOf45 rfl (by repeat first | exact FldEq.nil _ | refine FldEq.cons3 (by decide) rfl (by decide) (by rfl) ?_)
instance : EqG Tryd.prog 45 := ⟨by kernel_rfl⟩
instance : EqF Tryd.prog 72 [.s, .i .i64, .i .i64, .b] 2 := eqf_struct Tryd.underlying72 (by kernel_rfl) Tryd.isAgg72 Tryd.sizeOf72 rfl (by repeat first | exact FldEq.nil _ | refine FldEq.cons3 (by decide) rfl (by decide) (by rfl) ?_)
instance : EqG Tryd.prog 72 := ⟨by kernel_rfl⟩
instance : EqF Tryd.prog 79 [.s, .i .i64, .i .i64, .i .i64, .i .i64] 2 := eqf_struct Tryd.underlying79 (by kernel_rfl) Tryd.isAgg79 Tryd.sizeOf79 rfl (by repeat first | exact FldEq.nil _ | refine FldEq.cons3 (by decide) rfl (by decide) (by rfl) ?_)
instance : EqG Tryd.prog 79 := ⟨by kernel_rfl⟩
instance : EqF Tryd.prog 147 [.i .u64] 1 := eqf_int Tryd.underlying147 Tryd.isAgg147
instance : EqF Tryd.prog 166 [.i .u32] 1 := eqf_int Tryd.underlying166 Tryd.isAgg166
instance : EqF Tryd.prog 182 [.i .i64] 1 := eqf_int Tryd.underlying182 Tryd.isAgg182
instance : EqF Tryd.prog 183 [.i .u64] 1 := eqf_int Tryd.underlying183 Tryd.isAgg183
instance : EqF Tryd.prog 214 [.i .u8] 1 := eqf_int Tryd.underlying214 Tryd.isAgg214
instance : EqF Tryd.prog 215 [.i .u8] 1 := eqf_int Tryd.underlying215 Tryd.isAgg215
instance : EqF Tryd.prog 217 [.i .i32] 1 := eqf_int Tryd.underlying217 Tryd.isAgg217
instance : EqF Tryd.prog 218 [.i .i32] 1 := eqf_int Tryd.underlying218 Tryd.isAgg218
end Go.Proofs
