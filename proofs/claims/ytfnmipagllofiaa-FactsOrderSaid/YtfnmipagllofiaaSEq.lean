/- The facts on equality of structs, as instances. No condition. -/
import Derived.Test.YtfnmipagllofiaaOps7
import Derived.Test.YtfnmipagllofiaaSInst
namespace Go.Proofs
open Go.AL
instance : EqF Try.prog 2 [.i .i64] 1 := eqf_int Try.underlying2 Try.isAgg2
instance : EqF Try.prog 3 [.i .i64] 1 := eqf_int Try.underlying3 Try.isAgg3
instance : EqF Try.prog 4 [.b] 1 := eqf_bool Try.underlying4 Try.isAgg4
instance : EqF Try.prog 5 [.i .u8] 1 := eqf_int Try.underlying5 Try.isAgg5
instance : EqF Try.prog 6 [.i .u8] 1 := eqf_int Try.underlying6 Try.isAgg6
instance : EqF Try.prog 9 [.s] 1 := eqf_str Try.underlying9 Try.isAgg9
instance : EqF Try.prog 10 [.s] 1 := eqf_str Try.underlying10 Try.isAgg10
instance : EqF Try.prog 11 [.s] 1 := eqf_str Try.underlying11 Try.isAgg11
instance : EqF Try.prog 12 [.i .u64] 1 := eqf_int Try.underlying12 Try.isAgg12
instance : EqF Try.prog 21 [.i .i32] 1 := eqf_int Try.underlying21 Try.isAgg21
instance : EqF Try.prog 24 [.i .i64] 1 := eqf_int Try.underlying24 Try.isAgg24
instance : EqF Try.prog 39 [.i .i64, .i .i64, .s] 2 := eqf_struct Try.underlying39 (by kernel_rfl) Try.isAgg39 Try.sizeOf39 rfl (by repeat first | exact FldEq.nil _ | refine FldEq.cons3 (by decide) rfl (by decide) (by rfl) ?_)
instance : EqG Try.prog 39 := ⟨by kernel_rfl⟩
instance : EqF Try.prog 41 [.i .i64, .i .i64, .i .i64, .i .i64, .s, .i .i64, .b, .i .i64, .i .i64] 3 := eqf_struct Try.underlying41 (by kernel_rfl) Try.isAgg41 Try.sizeOf41 rfl (by repeat first | exact FldEq.nil _ | refine FldEq.cons3 (by decide) rfl (by decide) (by rfl) ?_)
instance : EqG Try.prog 41 := ⟨by kernel_rfl⟩
instance : EqF Try.prog 48 [.i .i64, .i .i64] 2 := eqf_struct Try.underlying48 (by kernel_rfl) Try.isAgg48 Try.sizeOf48 rfl (by repeat first | exact FldEq.nil _ | refine FldEq.cons3 (by decide) rfl (by decide) (by rfl) ?_)
instance : EqG Try.prog 48 := ⟨by kernel_rfl⟩
instance : EqF Try.prog 91 [.i .u64] 1 := eqf_int Try.underlying91 Try.isAgg91
instance : EqF Try.prog 102 [.b, .i .i64, .i .i64, .i .i64, .s] 3 := eqf_struct Try.underlying102 (by kernel_rfl) Try.isAgg102 Try.sizeOf102 rfl (by repeat first | exact FldEq.nil _ | refine FldEq.cons3 (by decide) rfl (by decide) (by rfl) ?_)
instance : EqG Try.prog 102 := ⟨by kernel_rfl⟩
instance : EqF Try.prog 105 [.i .i64] 1 := eqf_int Try.underlying105 Try.isAgg105
instance : EqF Try.prog 113 [.i .u32] 1 := eqf_int Try.underlying113 Try.isAgg113
instance : EqF Try.prog 115 [.i .u64] 1 := eqf_int Try.underlying115 Try.isAgg115
instance : EqF Try.prog 128 [.i .u64] 1 := eqf_int Try.underlying128 Try.isAgg128
instance : EqF Try.prog 154 [.i .u8] 1 := eqf_int Try.underlying154 Try.isAgg154
instance : EqF Try.prog 155 [.i .u8] 1 := eqf_int Try.underlying155 Try.isAgg155
instance : EqF Try.prog 158 [.i .i32] 1 := eqf_int Try.underlying158 Try.isAgg158
instance : EqF Try.prog 159 [.i .i32] 1 := eqf_int Try.underlying159 Try.isAgg159
end Go.Proofs
