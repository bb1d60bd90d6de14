/- The facts on equality of structs, as instances. No condition. -/
import Derived.Test.YtpfalehodcbnbaaDoorOps7
import Derived.Test.YtpfalehodcbnbaaDoorTInst
namespace Go.Proofs
open Go.AL
instance : EqF Tryd.prog 2 [.i .i64] 1 := eqf_int Tryd.underlying2 Tryd.isAgg2
instance : EqF Tryd.prog 3 [.i .i64] 1 := eqf_int Tryd.underlying3 Tryd.isAgg3
instance : EqF Tryd.prog 4 [.b] 1 := eqf_bool Tryd.underlying4 Tryd.isAgg4
instance : EqF Tryd.prog 5 [.i .u8] 1 := eqf_int Tryd.underlying5 Tryd.isAgg5
instance : EqF Tryd.prog 6 [.i .u8] 1 := eqf_int Tryd.underlying6 Tryd.isAgg6
instance : EqF Tryd.prog 9 [.s] 1 := eqf_str Tryd.underlying9 Tryd.isAgg9
instance : EqF Tryd.prog 10 [.s] 1 := eqf_str Tryd.underlying10 Tryd.isAgg10
instance : EqF Tryd.prog 11 [.s] 1 := eqf_str Tryd.underlying11 Tryd.isAgg11
instance : EqF Tryd.prog 12 [.i .u64] 1 := eqf_int Tryd.underlying12 Tryd.isAgg12
instance : EqF Tryd.prog 21 [.i .i32] 1 := eqf_int Tryd.underlying21 Tryd.isAgg21
instance : EqF Tryd.prog 23 [.i .i64, .i .i64, .s] 2 := eqf_struct Tryd.underlying23 (by kernel_rfl) Tryd.isAgg23 Tryd.sizeOf23 rfl (by repeat first | exact FldEq.nil _ | refine FldEq.cons3 (by decide) rfl (by decide) (by rfl) ?_)
instance : EqG Tryd.prog 23 := ⟨by kernel_rfl⟩
instance : EqF Tryd.prog 27 [.i .i64] 1 := eqf_int Tryd.underlying27 Tryd.isAgg27
instance : EqF Tryd.prog 69 [.i .u64] 1 := eqf_int Tryd.underlying69 Tryd.isAgg69
instance : EqF Tryd.prog 79 [.i .u64] 1 := eqf_int Tryd.underlying79 Tryd.isAgg79
instance : EqF Tryd.prog 94 [.i .u32] 1 := eqf_int Tryd.underlying94 Tryd.isAgg94
instance : EqF Tryd.prog 101 [.i .i64] 1 := eqf_int Tryd.underlying101 Tryd.isAgg101
instance : EqF Tryd.prog 123 [.i .u8] 1 := eqf_int Tryd.underlying123 Tryd.isAgg123
instance : EqF Tryd.prog 124 [.i .u8] 1 := eqf_int Tryd.underlying124 Tryd.isAgg124
instance : EqF Tryd.prog 126 [.i .i32] 1 := eqf_int Tryd.underlying126 Tryd.isAgg126
instance : EqF Tryd.prog 127 [.i .i32] 1 := eqf_int Tryd.underlying127 Tryd.isAgg127
end Go.Proofs
