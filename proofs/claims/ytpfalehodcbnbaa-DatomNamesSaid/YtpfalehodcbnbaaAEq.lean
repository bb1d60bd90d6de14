/- Types whose values are compared cell by cell. No condition. -/
import Derived.Test.YtpfalehodcbnbaaOps7
import Derived.Test.YtpfalehodcbnbaaAInst
namespace Go.Proofs
open Go.AL
instance : EqF Try.prog 2 [.i .i64] 1 := eqf_int Try.underlying2 Try.isAgg2
instance : EqF Try.prog 3 [.i .i64] 1 := eqf_int Try.underlying3 Try.isAgg3
instance : EqF Try.prog 4 [.b] 1 := eqf_bool Try.underlying4 Try.isAgg4
instance : EqF Try.prog 5 [.i .u8] 1 := eqf_int Try.underlying5 Try.isAgg5
instance : EqF Try.prog 6 [.i .u8] 1 := eqf_int Try.underlying6 Try.isAgg6
instance : EqF Try.prog 9 [.s] 1 := eqf_str Try.underlying9 Try.isAgg9
instance : EqF Try.prog 10 [.s] 1 := eqf_str Try.underlying10 Try.isAgg10
instance : EqF Try.prog 11 [.s] 1 := eqf_str Try.underlying11 Try.isAgg11
instance : EqF Try.prog 12 [.i .u64] 1 := eqf_int Try.underlying12 Try.isAgg12
instance : EqF Try.prog 21 [.i .i32] 1 := eqf_int Try.underlying21 Try.isAgg21
instance : EqF Try.prog 23 [.i .i64, .i .i64, .s] 2 := eqf_struct Try.underlying23 (by kernel_rfl) Try.isAgg23 Try.sizeOf23 rfl (by repeat first | exact FldEq.nil _ | refine FldEq.cons3 (by decide) rfl (by decide) (by rfl) ?_)
instance : EqG Try.prog 23 := ⟨by kernel_rfl⟩
instance : EqF Try.prog 25 [.i .i64] 1 := eqf_int Try.underlying25 Try.isAgg25
instance : EqF Try.prog 35 [.i .i64, .i .i64, .i .i64, .i .i64, .s, .i .i64, .b, .i .i64, .i .i64] 3 := eqf_struct Try.underlying35 (by kernel_rfl) Try.isAgg35 Try.sizeOf35 rfl (by repeat first | exact FldEq.nil _ | refine FldEq.cons3 (by decide) rfl (by decide) (by rfl) ?_)
instance : EqG Try.prog 35 := ⟨by kernel_rfl⟩
instance : EqF Try.prog 37 [.b, .i .i64, .i .i64, .i .i64, .s] 3 := eqf_struct Try.underlying37 (by kernel_rfl) Try.isAgg37 Try.sizeOf37 rfl (by repeat first | exact FldEq.nil _ | refine FldEq.cons3 (by decide) rfl (by decide) (by rfl) ?_)
instance : EqG Try.prog 37 := ⟨by kernel_rfl⟩
instance : EqF Try.prog 95 [.i .u64] 1 := eqf_int Try.underlying95 Try.isAgg95
instance : EqF Try.prog 116 [.i .i64] 1 := eqf_int Try.underlying116 Try.isAgg116
instance : EqF Try.prog 124 [.i .u32] 1 := eqf_int Try.underlying124 Try.isAgg124
instance : EqF Try.prog 126 [.i .u64] 1 := eqf_int Try.underlying126 Try.isAgg126
instance : EqF Try.prog 139 [.i .u64] 1 := eqf_int Try.underlying139 Try.isAgg139
instance : EqF Try.prog 159 [.i .u8] 1 := eqf_int Try.underlying159 Try.isAgg159
instance : EqF Try.prog 160 [.i .u8] 1 := eqf_int Try.underlying160 Try.isAgg160
instance : EqF Try.prog 163 [.i .i32] 1 := eqf_int Try.underlying163 Try.isAgg163
instance : EqF Try.prog 164 [.i .i32] 1 := eqf_int Try.underlying164 Try.isAgg164
end Go.Proofs
