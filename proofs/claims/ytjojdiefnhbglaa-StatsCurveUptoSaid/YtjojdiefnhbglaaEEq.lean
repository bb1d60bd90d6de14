/- The facts on equality of structs, as instances. No condition. -/
import Derived.Test.YtjojdiefnhbglaaOps11
import Derived.Test.YtjojdiefnhbglaaEInst
namespace Go.Proofs
open Go.AL
instance : EqF Try.prog 2 [.i .i64] 1 := eqf_int Try.underlying2 Try.isAgg2
instance : EqF Try.prog 3 [.i .i64] 1 := eqf_int Try.underlying3 Try.isAgg3
instance : EqF Try.prog 4 [.b] 1 := eqf_bool Try.underlying4 Try.isAgg4
instance : EqF Try.prog 5 [.i .u8] 1 := eqf_int Try.underlying5 Try.isAgg5
instance : EqF Try.prog 6 [.i .u8] 1 := eqf_int Try.underlying6 Try.isAgg6
instance : EqF Try.prog 9 [.s] 1 := eqf_str Try.underlying9 Try.isAgg9
instance : EqF Try.prog 10 [.s] 1 := eqf_str Try.underlying10 Try.isAgg10
instance : EqF Try.prog 11 [.s] 1 := eqf_str Try.underlying11 Try.isAgg11
instance : EqF Try.prog 12 [.i .u64] 1 := eqf_int Try.underlying12 Try.isAgg12
instance : EqF Try.prog 21 [.i .i32] 1 := eqf_int Try.underlying21 Try.isAgg21
instance : EqF Try.prog 26 [.i .i64] 1 := eqf_int Try.underlying26 Try.isAgg26
instance : EqF Try.prog 34 [.i .i64, .i .i64, .s] 2 := eqf_struct Try.underlying34 (by kernel_rfl) Try.isAgg34 Try.sizeOf34 rfl (by repeat first | exact FldEq.nil _ | refine FldEq.cons3 (by decide) rfl (by decide) (by rfl) ?_)
instance : EqG Try.prog 34 := ⟨by kernel_rfl⟩
instance : EqF Try.prog 36 [.i .i64, .i .i64, .i .i64, .i .i64, .s, .i .i64, .b, .i .i64, .i .i64] 3 := eqf_struct Try.underlying36 (by kernel_rfl) Try.isAgg36 Try.sizeOf36 rfl (by repeat first | exact FldEq.nil _ | refine FldEq.cons3 (by decide) rfl (by decide) (by rfl) ?_)
instance : EqG Try.prog 36 := ⟨by kernel_rfl⟩
instance : EqF Try.prog 53 [.i .i64, .i .i64] 2 := eqf_struct Try.underlying53 (by kernel_rfl) Try.isAgg53 Try.sizeOf53 rfl (by repeat first | exact FldEq.nil _ | refine FldEq.cons3 (by decide) rfl (by decide) (by rfl) ?_)
instance : EqG Try.prog 53 := ⟨by kernel_rfl⟩
instance : EqF Try.prog 54 [.i .i64, .i .i64] 2 := eqf_struct Try.underlying54 (by kernel_rfl) Try.isAgg54 Try.sizeOf54 rfl (by repeat first | exact FldEq.nil _ | refine FldEq.cons3 (by decide) rfl (by decide) (by rfl) ?_)
instance : EqG Try.prog 54 := ⟨by kernel_rfl⟩
instance : EqF Try.prog 73 [.i .i64, .i .i64, .i .i64] 2 := eqf_struct Try.underlying73 (by kernel_rfl) Try.isAgg73 Try.sizeOf73 rfl (by repeat first | exact FldEq.nil _ | refine FldEq.cons3 (by decide) rfl (by decide) (by rfl) ?_)
instance : EqG Try.prog 73 := ⟨by kernel_rfl⟩
instance : EqF Try.prog 74 [.i .i64, .i .i64, .i .i64] 2 := eqf_struct Try.underlying74 (by kernel_rfl) Try.isAgg74 Try.sizeOf74 rfl (by repeat first | exact FldEq.nil _ | refine FldEq.cons3 (by decide) rfl (by decide) (by rfl) ?_)
instance : EqG Try.prog 74 := ⟨by kernel_rfl⟩
instance : EqF Try.prog 79 [.b, .i .i64, .i .i64, .i .i64, .s] 3 := eqf_struct Try.underlying79 (by kernel_rfl) Try.isAgg79 Try.sizeOf79 rfl (by repeat first | exact FldEq.nil _ | refine FldEq.cons3 (by decide) rfl (by decide) (by rfl) ?_)
instance : EqG Try.prog 79 := ⟨by kernel_rfl⟩
instance : EqF Try.prog 82 [.i .i64, .i .i64, .i .i64, .b, .b] 2 := eqf_struct Try.underlying82 (by kernel_rfl) Try.isAgg82 Try.sizeOf82 rfl (by repeat first | exact FldEq.nil _ | refine FldEq.cons3 (by decide) rfl (by decide) (by rfl) ?_)
instance : EqG Try.prog 82 := ⟨by kernel_rfl⟩
instance : EqF Try.prog 114 [.i .i64, .i .i64] 2 := eqf_struct Try.underlying114 (by kernel_rfl) Try.isAgg114 Try.sizeOf114 rfl (by repeat first | exact FldEq.nil _ | refine FldEq.cons3 (by decide) rfl (by decide) (by rfl) ?_)
instance : EqG Try.prog 114 := ⟨by kernel_rfl⟩
instance : EqF Try.prog 161 [.i .u64] 1 := eqf_int Try.underlying161 Try.isAgg161
instance : EqF Try.prog 192 [.i .i64] 1 := eqf_int Try.underlying192 Try.isAgg192
instance : EqF Try.prog 199 [.i .u32] 1 := eqf_int Try.underlying199 Try.isAgg199
instance : EqF Try.prog 201 [.i .u64] 1 := eqf_int Try.underlying201 Try.isAgg201
instance : EqF Try.prog 218 [.i .u64] 1 := eqf_int Try.underlying218 Try.isAgg218
instance : EqF Try.prog 247 [.i .u8] 1 := eqf_int Try.underlying247 Try.isAgg247
instance : EqF Try.prog 248 [.i .u8] 1 := eqf_int Try.underlying248 Try.isAgg248
instance : EqF Try.prog 251 [.i .i32] 1 := eqf_int Try.underlying251 Try.isAgg251
instance : EqF Try.prog 252 [.i .i32] 1 := eqf_int Try.underlying252 Try.isAgg252
end Go.Proofs
