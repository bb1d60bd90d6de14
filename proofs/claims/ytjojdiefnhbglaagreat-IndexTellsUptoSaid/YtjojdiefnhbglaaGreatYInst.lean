/- The facts on a seat's types, as instances of the abstract logic's classes. No condition. -/
import Derived.Test.YtjojdiefnhbglaaGreatOpen
import Derived.Test.YtjojdiefnhbglaaGreatOps17
import Derived.Test.YtjojdiefnhbglaaGreatProg
import Derived.Test.YtjojdiefnhbglaaGreatOps7
import Derived.Test.YtjojdiefnhbglaaGreatBase
set_option linter.all false
namespace Go.Proofs
open Go.AL
instance : Und Tryz.prog 2 (.int .i64):=⟨Tryz.underlying2⟩
instance : Cel Tryz.prog 2 1:=⟨by kernel_rfl⟩
instance : Siz Tryz.prog 2 1:=⟨Tryz.sizeOf2⟩
instance : Agg Tryz.prog 2 false:=⟨Tryz.isAgg2⟩
instance : Zer Tryz.prog 2 (.int .i64 0):=⟨Tryz.zeroValue2⟩
instance : Inf Tryz.prog 2 1 8 (.int .i64 0):=⟨inf_of (by kernel_rfl)⟩
instance : Und Tryz.prog 3 (.int .i64):=⟨Tryz.underlying3⟩
instance : Cel Tryz.prog 3 1:=⟨by kernel_rfl⟩
instance : Siz Tryz.prog 3 1:=⟨Tryz.sizeOf3⟩
instance : Agg Tryz.prog 3 false:=⟨Tryz.isAgg3⟩
instance : Zer Tryz.prog 3 (.int .i64 0):=⟨Tryz.zeroValue3⟩
instance : Und Tryz.prog 4 .bool:=⟨Tryz.underlying4⟩
instance : Cel Tryz.prog 4 1:=⟨by kernel_rfl⟩
instance : Siz Tryz.prog 4 1:=⟨Tryz.sizeOf4⟩
instance : Agg Tryz.prog 4 false:=⟨Tryz.isAgg4⟩
instance : Zer Tryz.prog 4 (.bool false):=⟨Tryz.zeroValue4⟩
instance : Inf Tryz.prog 4 1 1 (.bool false):=⟨inf_of (by kernel_rfl)⟩
instance : Und Tryz.prog 5 (.int .u8):=⟨Tryz.underlying5⟩
instance : Siz Tryz.prog 5 1:=⟨Tryz.sizeOf5⟩
instance : Agg Tryz.prog 5 false:=⟨Tryz.isAgg5⟩
instance : Zer Tryz.prog 5 (.int .u8 0):=⟨Tryz.zeroValue5⟩
instance : Inf Tryz.prog 5 1 1 (.int .u8 0):=⟨inf_of (by kernel_rfl)⟩
instance : Und Tryz.prog 9 .string:=⟨Tryz.underlying9⟩
instance : Cel Tryz.prog 9 1:=⟨by kernel_rfl⟩
instance : Siz Tryz.prog 9 1:=⟨Tryz.sizeOf9⟩
instance : Agg Tryz.prog 9 false:=⟨Tryz.isAgg9⟩
instance : Und Tryz.prog 22 (.slice 48):=⟨Tryz.underlying22⟩
instance : Siz Tryz.prog 22 1:=⟨Tryz.sizeOf22⟩
instance : Agg Tryz.prog 22 false:=⟨Tryz.isAgg22⟩
instance : Zer Tryz.prog 22 (.slice none 0 0):=⟨Tryz.zeroValue22⟩
instance : Und Tryz.prog 23 (.slice 58):=⟨Tryz.underlying23⟩
instance : Siz Tryz.prog 23 1:=⟨Tryz.sizeOf23⟩
instance : Agg Tryz.prog 23 false:=⟨Tryz.isAgg23⟩
instance : Zer Tryz.prog 23 (.slice none 0 0):=⟨Tryz.zeroValue23⟩
instance : Cel Tryz.prog 25 5:=⟨by kernel_rfl⟩
instance : Siz Tryz.prog 25 5:=⟨Tryz.sizeOf25⟩
instance : Agg Tryz.prog 25 true:=⟨Tryz.isAgg25⟩
instance : Zer Tryz.prog 25 (.agg #[.int .i64 0,.int .i64 0,.int .i64 0,.bool false,.bool false]):=⟨Tryz.zeroValue25⟩
instance : Plc Tryz.prog 25 [(0,1),(1,1),(2,1),(3,1),(4,1)]:=⟨⟨_,Tryz.runUnderlying25,fun w=>by simp [Tryz.sizeOf2,Tryz.sizeOf4]⟩⟩
instance : Fld Tryz.prog 25 0 0:=⟨fun w a=>by simp [Instr.fieldAt,Instr.sureAddr,fieldPlace,Tryz.runUnderlying25,Tryz.sizeOf2]⟩
instance : Fld Tryz.prog 25 1 1:=⟨fun w a=>by simp [Instr.fieldAt,Instr.sureAddr,fieldPlace,Tryz.runUnderlying25,Tryz.sizeOf2]⟩
instance : Fld Tryz.prog 25 2 2:=⟨fun w a=>by simp [Instr.fieldAt,Instr.sureAddr,fieldPlace,Tryz.runUnderlying25,Tryz.sizeOf2]⟩
instance : Fld Tryz.prog 25 3 3:=⟨fun w a=>by simp [Instr.fieldAt,Instr.sureAddr,fieldPlace,Tryz.runUnderlying25,Tryz.sizeOf4]⟩
instance : Fld Tryz.prog 25 4 4:=⟨fun w a=>by simp [Instr.fieldAt,Instr.sureAddr,fieldPlace,Tryz.runUnderlying25,Tryz.sizeOf4]⟩
instance : Und Tryz.prog 28 (.pointer 97):=⟨Tryz.underlying28⟩
instance : Agg Tryz.prog 28 false:=⟨Tryz.isAgg28⟩
instance : Siz Tryz.prog 29 1:=⟨Tryz.sizeOf29⟩
instance : Agg Tryz.prog 29 false:=⟨Tryz.isAgg29⟩
instance : Zer Tryz.prog 29 (.int .i64 0):=⟨Tryz.zeroValue29⟩
instance : Und Tryz.prog 36 (.slice 54):=⟨Tryz.underlying36⟩
instance : Siz Tryz.prog 36 1:=⟨Tryz.sizeOf36⟩
instance : Agg Tryz.prog 36 false:=⟨Tryz.isAgg36⟩
instance : Zer Tryz.prog 36 (.slice none 0 0):=⟨Tryz.zeroValue36⟩
instance : Cel Tryz.prog 46 3:=⟨by kernel_rfl⟩
instance : Siz Tryz.prog 46 3:=⟨Tryz.sizeOf46⟩
instance : Agg Tryz.prog 46 true:=⟨Tryz.isAgg46⟩
instance : Zer Tryz.prog 46 (.agg #[.int .i64 0,.int .i64 0,.string ⟨#[]⟩]):=⟨Tryz.zeroValue46⟩
instance : Plc Tryz.prog 46 [(0,1),(1,1),(2,1)]:=⟨⟨_,Tryz.runUnderlying46,fun w=>by simp [Tryz.sizeOf2,Tryz.sizeOf3,Tryz.sizeOf9]⟩⟩
instance : Fld Tryz.prog 46 0 0:=⟨fun w a=>by simp [Instr.fieldAt,Instr.sureAddr,fieldPlace,Tryz.runUnderlying46,Tryz.sizeOf3]⟩
instance : Fld Tryz.prog 46 1 1:=⟨fun w a=>by simp [Instr.fieldAt,Instr.sureAddr,fieldPlace,Tryz.runUnderlying46,Tryz.sizeOf2]⟩
instance : Fld Tryz.prog 46 2 2:=⟨fun w a=>by simp [Instr.fieldAt,Instr.sureAddr,fieldPlace,Tryz.runUnderlying46,Tryz.sizeOf9]⟩
instance : Cel Tryz.prog 48 9:=⟨by kernel_rfl⟩
instance : Siz Tryz.prog 48 9:=⟨Tryz.sizeOf48⟩
instance : Agg Tryz.prog 48 true:=⟨Tryz.isAgg48⟩
instance : Zer Tryz.prog 48 (.agg #[.int .i64 0,.int .i64 0,.int .i64 0,.int .i64 0,.string ⟨#[]⟩,.int .i64 0,.bool false,.int .i64 0,.int .i64 0]):=⟨Tryz.zeroValue48⟩
instance : Inf Tryz.prog 48 9 80 (.agg #[.int .i64 0,.int .i64 0,.int .i64 0,.int .i64 0,.string ⟨#[]⟩,.int .i64 0,.bool false,.int .i64 0,.int .i64 0]):=⟨inf_of (by kernel_rfl)⟩
instance : Plc Tryz.prog 48 [(0,1),(1,1),(2,3),(5,1),(6,1),(7,1),(8,1)]:=⟨⟨_,Tryz.runUnderlying48,fun w=>by simp [Tryz.sizeOf2,Tryz.sizeOf4,Tryz.sizeOf46]⟩⟩
instance : Fld Tryz.prog 48 0 0:=⟨fun w a=>by simp [Instr.fieldAt,Instr.sureAddr,fieldPlace,Tryz.runUnderlying48,Tryz.sizeOf2]⟩
instance : Fld Tryz.prog 48 1 1:=⟨fun w a=>by simp [Instr.fieldAt,Instr.sureAddr,fieldPlace,Tryz.runUnderlying48,Tryz.sizeOf2]⟩
instance : Fld Tryz.prog 48 2 2:=⟨fun w a=>by simp [Instr.fieldAt,Instr.sureAddr,fieldPlace,Tryz.runUnderlying48,Tryz.sizeOf46]⟩
instance : Fld Tryz.prog 48 3 5:=⟨fun w a=>by simp [Instr.fieldAt,Instr.sureAddr,fieldPlace,Tryz.runUnderlying48,Tryz.sizeOf2]⟩
instance : Fld Tryz.prog 48 4 6:=⟨fun w a=>by simp [Instr.fieldAt,Instr.sureAddr,fieldPlace,Tryz.runUnderlying48,Tryz.sizeOf4]⟩
instance : Fld Tryz.prog 48 5 7:=⟨fun w a=>by simp [Instr.fieldAt,Instr.sureAddr,fieldPlace,Tryz.runUnderlying48,Tryz.sizeOf2]⟩
instance : Fld Tryz.prog 48 6 8:=⟨fun w a=>by simp [Instr.fieldAt,Instr.sureAddr,fieldPlace,Tryz.runUnderlying48,Tryz.sizeOf2]⟩
instance : Und Tryz.prog 52 (.slice 62):=⟨Tryz.underlying52⟩
instance : Cel Tryz.prog 52 1:=⟨by kernel_rfl⟩
instance : Siz Tryz.prog 52 1:=⟨Tryz.sizeOf52⟩
instance : Agg Tryz.prog 52 false:=⟨Tryz.isAgg52⟩
instance : Zer Tryz.prog 52 (.slice none 0 0):=⟨Tryz.zeroValue52⟩
instance : Cel Tryz.prog 54 6:=⟨by kernel_rfl⟩
instance : Siz Tryz.prog 54 6:=⟨Tryz.sizeOf54⟩
instance : Agg Tryz.prog 54 true:=⟨Tryz.isAgg54⟩
instance : Zer Tryz.prog 54 (.agg #[.int .i64 0,.int .i64 0,.int .i64 0,.int .i64 0,.string ⟨#[]⟩,.slice none 0 0]):=⟨Tryz.zeroValue54⟩
instance : Inf Tryz.prog 54 6 72 (.agg #[.int .i64 0,.int .i64 0,.int .i64 0,.int .i64 0,.string ⟨#[]⟩,.slice none 0 0]):=⟨inf_of (by kernel_rfl)⟩
instance : Plc Tryz.prog 54 [(0,1),(1,1),(2,3),(5,1)]:=⟨⟨_,Tryz.runUnderlying54,fun w=>by simp [Tryz.sizeOf2,Tryz.sizeOf46,Tryz.sizeOf52]⟩⟩
instance : Fld Tryz.prog 54 0 0:=⟨fun w a=>by simp [Instr.fieldAt,Instr.sureAddr,fieldPlace,Tryz.runUnderlying54,Tryz.sizeOf2]⟩
instance : Fld Tryz.prog 54 1 1:=⟨fun w a=>by simp [Instr.fieldAt,Instr.sureAddr,fieldPlace,Tryz.runUnderlying54,Tryz.sizeOf2]⟩
instance : Fld Tryz.prog 54 2 2:=⟨fun w a=>by simp [Instr.fieldAt,Instr.sureAddr,fieldPlace,Tryz.runUnderlying54,Tryz.sizeOf46]⟩
instance : Fld Tryz.prog 54 3 5:=⟨fun w a=>by simp [Instr.fieldAt,Instr.sureAddr,fieldPlace,Tryz.runUnderlying54,Tryz.sizeOf52]⟩
instance : Cel Tryz.prog 58 5:=⟨by kernel_rfl⟩
instance : Siz Tryz.prog 58 5:=⟨Tryz.sizeOf58⟩
instance : Agg Tryz.prog 58 true:=⟨Tryz.isAgg58⟩
instance : Zer Tryz.prog 58 (.agg #[.bool false,.int .i64 0,.int .i64 0,.int .i64 0,.string ⟨#[]⟩]):=⟨Tryz.zeroValue58⟩
instance : Inf Tryz.prog 58 5 48 (.agg #[.bool false,.int .i64 0,.int .i64 0,.int .i64 0,.string ⟨#[]⟩]):=⟨inf_of (by kernel_rfl)⟩
instance : Plc Tryz.prog 58 [(0,1),(1,1),(2,3)]:=⟨⟨_,Tryz.runUnderlying58,fun w=>by simp [Tryz.sizeOf2,Tryz.sizeOf4,Tryz.sizeOf46]⟩⟩
instance : Fld Tryz.prog 58 0 0:=⟨fun w a=>by simp [Instr.fieldAt,Instr.sureAddr,fieldPlace,Tryz.runUnderlying58,Tryz.sizeOf4]⟩
instance : Fld Tryz.prog 58 1 1:=⟨fun w a=>by simp [Instr.fieldAt,Instr.sureAddr,fieldPlace,Tryz.runUnderlying58,Tryz.sizeOf2]⟩
instance : Fld Tryz.prog 58 2 2:=⟨fun w a=>by simp [Instr.fieldAt,Instr.sureAddr,fieldPlace,Tryz.runUnderlying58,Tryz.sizeOf46]⟩
instance : Cel Tryz.prog 62 2:=⟨by kernel_rfl⟩
instance : Siz Tryz.prog 62 2:=⟨Tryz.sizeOf62⟩
instance : Agg Tryz.prog 62 true:=⟨Tryz.isAgg62⟩
instance : Zer Tryz.prog 62 (.agg #[.int .i64 0,.int .i64 0]):=⟨Tryz.zeroValue62⟩
instance : Inf Tryz.prog 62 2 16 (.agg #[.int .i64 0,.int .i64 0]):=⟨inf_of (by kernel_rfl)⟩
instance : Plc Tryz.prog 62 [(0,1),(1,1)]:=⟨⟨_,Tryz.runUnderlying62,fun w=>by simp [Tryz.sizeOf2]⟩⟩
instance : Fld Tryz.prog 62 0 0:=⟨fun w a=>by simp [Instr.fieldAt,Instr.sureAddr,fieldPlace,Tryz.runUnderlying62,Tryz.sizeOf2]⟩
instance : Fld Tryz.prog 62 1 1:=⟨fun w a=>by simp [Instr.fieldAt,Instr.sureAddr,fieldPlace,Tryz.runUnderlying62,Tryz.sizeOf2]⟩
instance : Und Tryz.prog 94 (.pointer 169):=⟨Tryz.underlying94⟩
instance : Siz Tryz.prog 94 1:=⟨Tryz.sizeOf94⟩
instance : Agg Tryz.prog 94 false:=⟨Tryz.isAgg94⟩
instance : Und Tryz.prog 95 (.array 5 94):=⟨Tryz.underlying95⟩
instance : Siz Tryz.prog 95 5:=⟨Tryz.sizeOf95⟩
instance : Agg Tryz.prog 95 true:=⟨Tryz.isAgg95⟩
instance : Zer Tryz.prog 97 (.agg #[.pointer none,.pointer none,.pointer none,.pointer none,.pointer none]):=⟨Tryz.zeroValue97⟩
instance : Plc Tryz.prog 97 [(0,5)]:=⟨⟨_,Tryz.runUnderlying97,fun w=>by simp [Tryz.sizeOf95]⟩⟩
instance : Fld Tryz.prog 97 0 0:=⟨fun w a=>by simp [Instr.fieldAt,Instr.sureAddr,fieldPlace,Tryz.runUnderlying97,Tryz.sizeOf95]⟩
instance : Und Tryz.prog 99 (.slice 5):=⟨Tryz.underlying99⟩
instance : Siz Tryz.prog 99 1:=⟨Tryz.sizeOf99⟩
instance : Agg Tryz.prog 99 false:=⟨Tryz.isAgg99⟩
instance : Zer Tryz.prog 99 (.slice none 0 0):=⟨Tryz.zeroValue99⟩
instance : Siz Tryz.prog 111 1:=⟨Tryz.sizeOf111⟩
instance : Agg Tryz.prog 111 false:=⟨Tryz.isAgg111⟩
instance : Zer Tryz.prog 111 (.nilFunc):=⟨Tryz.zeroValue111⟩
instance : Siz Tryz.prog 124 2:=⟨Tryz.sizeOf124⟩
instance : Agg Tryz.prog 124 true:=⟨Tryz.isAgg124⟩
instance : Zer Tryz.prog 124 (.agg #[.slice none 0 0,.slice none 0 0]):=⟨Tryz.zeroValue124⟩
instance : Inf Tryz.prog 124 2 48 (.agg #[.slice none 0 0,.slice none 0 0]):=⟨inf_of (by kernel_rfl)⟩
instance : Plc Tryz.prog 124 [(0,1),(1,1)]:=⟨⟨_,Tryz.runUnderlying124,fun w=>by simp [Tryz.sizeOf99]⟩⟩
instance : Fld Tryz.prog 124 0 0:=⟨fun w a=>by simp [Instr.fieldAt,Instr.sureAddr,fieldPlace,Tryz.runUnderlying124,Tryz.sizeOf99]⟩
instance : Und Tryz.prog 136 (.slice 2):=⟨Tryz.underlying136⟩
instance : Und Tryz.prog 162 (.pointer 213):=⟨Tryz.underlying162⟩
instance : Agg Tryz.prog 162 false:=⟨Tryz.isAgg162⟩
instance : Zer Tryz.prog 169 (.agg #[.pointer none]):=⟨Tryz.zeroValue169⟩
instance : Plc Tryz.prog 169 [(0,1)]:=⟨⟨_,Tryz.runUnderlying169,fun w=>by simp [Tryz.sizeOf162]⟩⟩
instance : Fld Tryz.prog 169 0 0:=⟨fun w a=>by simp [Instr.fieldAt,Instr.sureAddr,fieldPlace,Tryz.runUnderlying169,Tryz.sizeOf162]⟩
instance : Und Tryz.prog 175 (.slice 124):=⟨Tryz.underlying175⟩
instance : Siz Tryz.prog 175 1:=⟨Tryz.sizeOf175⟩
instance : Agg Tryz.prog 175 false:=⟨Tryz.isAgg175⟩
instance : Zer Tryz.prog 175 (.slice none 0 0):=⟨Tryz.zeroValue175⟩
instance : Und Tryz.prog 189 (.slice 4):=⟨Tryz.underlying189⟩
instance : Siz Tryz.prog 189 1:=⟨Tryz.sizeOf189⟩
instance : Agg Tryz.prog 189 false:=⟨Tryz.isAgg189⟩
instance : Zer Tryz.prog 189 (.slice none 0 0):=⟨Tryz.zeroValue189⟩
instance : Zer Tryz.prog 213 (.agg #[.slice none 0 0,.slice none 0 0,.pointer none,.pointer none,.int .i64 0,.int .i64 0]):=⟨Tryz.zeroValue213⟩
instance : Plc Tryz.prog 213 [(0,1),(1,1),(2,1),(3,1),(4,1),(5,1)]:=⟨⟨_,Tryz.runUnderlying213,fun w=>by simp [Tryz.sizeOf162,Tryz.sizeOf3,Tryz.sizeOf99]⟩⟩
instance : Fld Tryz.prog 213 0 0:=⟨fun w a=>by simp [Instr.fieldAt,Instr.sureAddr,fieldPlace,Tryz.runUnderlying213,Tryz.sizeOf99]⟩
instance : Fld Tryz.prog 213 1 1:=⟨fun w a=>by simp [Instr.fieldAt,Instr.sureAddr,fieldPlace,Tryz.runUnderlying213,Tryz.sizeOf99]⟩
instance : Fld Tryz.prog 213 2 2:=⟨fun w a=>by simp [Instr.fieldAt,Instr.sureAddr,fieldPlace,Tryz.runUnderlying213,Tryz.sizeOf162]⟩
instance : Fld Tryz.prog 213 3 3:=⟨fun w a=>by simp [Instr.fieldAt,Instr.sureAddr,fieldPlace,Tryz.runUnderlying213,Tryz.sizeOf162]⟩
instance : Fld Tryz.prog 213 4 4:=⟨fun w a=>by simp [Instr.fieldAt,Instr.sureAddr,fieldPlace,Tryz.runUnderlying213,Tryz.sizeOf3]⟩
instance : Fld Tryz.prog 213 5 5:=⟨fun w a=>by simp [Instr.fieldAt,Instr.sureAddr,fieldPlace,Tryz.runUnderlying213,Tryz.sizeOf3]⟩
instance : Und Tryz.prog 217 (.array 3 58):=⟨Tryz.underlying217⟩
instance : Siz Tryz.prog 217 15:=⟨Tryz.sizeOf217⟩
instance : Agg Tryz.prog 217 true:=⟨Tryz.isAgg217⟩
instance : Zer Tryz.prog 217 (.agg #[.bool false,.int .i64 0,.int .i64 0,.int .i64 0,.string ⟨#[]⟩,.bool false,.int .i64 0,.int .i64 0,.int .i64 0,.string ⟨#[]⟩,.bool false,.int .i64 0,.int .i64 0,.int .i64 0,.string ⟨#[]⟩]):=⟨Tryz.zeroValue217⟩
instance : Und Tryz.prog 234 (.int .u64):=⟨Tryz.underlying234⟩
instance : Agg Tryz.prog 236 false:=⟨Tryz.isAgg236⟩
instance : Zer Tryz.prog 238 (.agg #[.slice none 0 0,.bool false]):=⟨Tryz.zeroValue238⟩
instance : Plc Tryz.prog 238 [(0,1),(1,1)]:=⟨⟨_,Tryz.runUnderlying238,fun w=>by simp [Tryz.sizeOf4,Tryz.sizeOf99]⟩⟩
instance : Fld Tryz.prog 238 0 0:=⟨fun w a=>by simp [Instr.fieldAt,Instr.sureAddr,fieldPlace,Tryz.runUnderlying238,Tryz.sizeOf99]⟩
instance : Fld Tryz.prog 238 1 1:=⟨fun w a=>by simp [Instr.fieldAt,Instr.sureAddr,fieldPlace,Tryz.runUnderlying238,Tryz.sizeOf4]⟩
instance : Und Tryz.prog 260 (.array 8 5):=⟨Tryz.underlying260⟩
instance : Siz Tryz.prog 260 8:=⟨Tryz.sizeOf260⟩
instance : Agg Tryz.prog 260 true:=⟨Tryz.isAgg260⟩
instance : Zer Tryz.prog 260 (.agg #[.int .u8 0,.int .u8 0,.int .u8 0,.int .u8 0,.int .u8 0,.int .u8 0,.int .u8 0,.int .u8 0]):=⟨Tryz.zeroValue260⟩
instance : Agg Tryz.prog 264 false:=⟨Tryz.isAgg264⟩
instance : Und Tryz.prog 280 (.slice 3):=⟨Tryz.underlying280⟩
instance : Und Tryz.prog 289 (.slice 52):=⟨Tryz.underlying289⟩
instance : Mix Tryz.prog:=⟨by decide⟩
end Go.Proofs

namespace Go.Proofs
open Go.AL
instance : EqF Tryz.prog 2 [.i .i64] 1:=eqf_int Tryz.underlying2 Tryz.isAgg2
instance : EqF Tryz.prog 3 [.i .i64] 1:=eqf_int Tryz.underlying3 Tryz.isAgg3
instance : EqF Tryz.prog 4 [.b] 1:=eqf_bool Tryz.underlying4 Tryz.isAgg4
instance : EqF Tryz.prog 9 [.s] 1:=eqf_str Tryz.underlying9 Tryz.isAgg9
instance : EqF Tryz.prog 46 [.i .i64,.i .i64,.s] 2:=eqf_struct Tryz.underlying46 (by kernel_rfl) Tryz.isAgg46 Tryz.sizeOf46 rfl (by repeat first|exact FldEq.nil _|refine FldEq.cons3 (by decide) rfl (by decide) (by rfl) ?_)
instance : EqG Tryz.prog 46:=⟨by kernel_rfl⟩
instance : EqF Tryz.prog 48 [.i .i64,.i .i64,.i .i64,.i .i64,.s,.i .i64,.b,.i .i64,.i .i64] 3:=eqf_struct Tryz.underlying48 (by kernel_rfl) Tryz.isAgg48 Tryz.sizeOf48 rfl (by repeat first|exact FldEq.nil _|refine FldEq.cons3 (by decide) rfl (by decide) (by rfl) ?_)
instance : EqG Tryz.prog 48:=⟨by kernel_rfl⟩
instance : EqF Tryz.prog 62 [.i .i64,.i .i64] 2:=eqf_struct Tryz.underlying62 (by kernel_rfl) Tryz.isAgg62 Tryz.sizeOf62 rfl (by repeat first|exact FldEq.nil _|refine FldEq.cons3 (by decide) rfl (by decide) (by rfl) ?_)
instance : EqG Tryz.prog 62:=⟨by kernel_rfl⟩
end Go.Proofs

namespace Go.Proofs
structure Sp where
  f : Int
  t : Int
theorem Sp.ext' {a b : Sp} (h1 : a.f = b.f) (h2 : a.t = b.t) : a = b:=by
  obtain ⟨a,b⟩:=a;simp only at h1 h2;subst h1;subst h2;rfl
def inS (l : List Sp) (x : Int) : Prop:=∃ s,s ∈ l ∧ s.f ≤ x ∧ x < s.t
def neS (l : List Sp) : Prop:=∀ s,s ∈ l → s.f < s.t
def SetP (l : List Sp) : Prop:=neS l ∧ l.Pairwise (fun a b=>a.t < b.f)
theorem inS_nil (x : Int) : ¬ inS [] x:=fun ⟨_,h,_⟩=>by simp at h
theorem inS_cons (s : Sp) (l : List Sp) (x : Int) : inS (s :: l) x ↔ (s.f ≤ x ∧ x < s.t) ∨ inS l x:=by
  constructor
  · rintro ⟨r,hr,h⟩
    rcases List.mem_cons.1 hr with rfl|hr
    · exact .inl h
    · exact .inr ⟨r,hr,h⟩
  · rintro (h | ⟨r,hr,h⟩)
    · exact ⟨s,List.mem_cons_self,h⟩
    · exact ⟨r,List.mem_cons_of_mem _ hr,h⟩
theorem inS_append (a b : List Sp) (x : Int) : inS (a ++ b) x ↔ inS a x ∨ inS b x:=by
  induction a with
  | nil=>simp [inS_nil]
  | cons s a ih=>rw [List.cons_append,inS_cons,inS_cons,ih,or_assoc]
theorem inS_perm {a b : List Sp} (h : a.Perm b) (x : Int) : inS a x ↔ inS b x :=
  ⟨fun ⟨s,hs,e⟩=>⟨s,h.mem_iff.1 hs,e⟩,fun ⟨s,hs,e⟩=>⟨s,h.mem_iff.2 hs,e⟩⟩
theorem SetP.nil : SetP []:=⟨fun _ h=>by simp at h,List.Pairwise.nil⟩
theorem setP_cons {s : Sp} {l : List Sp} : SetP (s :: l) ↔ s.f < s.t ∧ (∀ r,r ∈ l → s.t < r.f) ∧ SetP l:=by
  constructor
  · rintro ⟨h1,h2⟩
    exact ⟨h1 s List.mem_cons_self,(List.pairwise_cons.1 h2).1,fun r hr=>h1 r (List.mem_cons_of_mem _ hr),(List.pairwise_cons.1 h2).2⟩
  · rintro ⟨h1,h2,h3,h4⟩
    refine ⟨fun r hr=>?_,List.pairwise_cons.2 ⟨h2,h4⟩⟩
    rcases List.mem_cons.1 hr with rfl|hr
    · exact h1
    · exact h3 r hr
theorem setP_append {a b : List Sp} (ha : SetP a) (hb : SetP b) (h : ∀ s,s ∈ a → ∀ r,r ∈ b → s.t < r.f) : SetP (a ++ b) :=
  ⟨fun s hs=>by rcases List.mem_append.1 hs with h|h;exact ha.1 s h;exact hb.1 s h,List.pairwise_append.2 ⟨ha.2,hb.2,h⟩⟩
theorem setP_one {s : Sp} (h : s.f < s.t) : SetP [s]:=setP_cons.2 ⟨h,fun _ h=>by simp at h,.nil⟩
theorem set_ext : ∀ {a b : List Sp},SetP a → SetP b → (∀ x,inS a x ↔ inS b x) → a = b
  | [],[],_,_,_=>rfl
  | [],r :: b,_,hb,h=>absurd ((h r.f).2 ((inS_cons _ _ _).2 (.inl ⟨Int.le_refl _,(setP_cons.1 hb).1⟩))) (inS_nil _)
  | s :: a,[],ha,_,h=>absurd ((h s.f).1 ((inS_cons _ _ _).2 (.inl ⟨Int.le_refl _,(setP_cons.1 ha).1⟩))) (inS_nil _)
  | s :: a,r :: b,ha,hb,h=>by
    obtain ⟨a1,a2,a3⟩:=setP_cons.1 ha
    obtain ⟨b1,b2,b3⟩:=setP_cons.1 hb
    have lo1 : r.f ≤ s.f:=by
      rcases (inS_cons _ _ _).1 ((h s.f).1 ((inS_cons _ _ _).2 (.inl ⟨Int.le_refl _,a1⟩))) with e | ⟨u,hu,e⟩
      · exact e.1
      · have:=b2 u hu;omega
    have lo2 : s.f ≤ r.f:=by
      rcases (inS_cons _ _ _).1 ((h r.f).2 ((inS_cons _ _ _).2 (.inl ⟨Int.le_refl _,b1⟩))) with e | ⟨u,hu,e⟩
      · exact e.1
      · have:=a2 u hu;omega
    have hi1 : r.t ≤ s.t:=by
      rcases Int.lt_or_le s.t r.t with g|g
      · rcases (inS_cons _ _ _).1 ((h s.t).2 ((inS_cons _ _ _).2 (.inl ⟨by omega,g⟩))) with e | ⟨u,hu,e⟩
        · omega
        · have:=a2 u hu;omega
      · exact g
    have hi2 : s.t ≤ r.t:=by
      rcases Int.lt_or_le r.t s.t with g|g
      · rcases (inS_cons _ _ _).1 ((h r.t).1 ((inS_cons _ _ _).2 (.inl ⟨by omega,g⟩))) with e | ⟨u,hu,e⟩
        · omega
        · have:=b2 u hu;omega
      · exact g
    have e : s = r:=Sp.ext' (by omega) (by omega)
    subst e
    congr 1
    refine set_ext a3 b3 fun x=>⟨fun hx=>?_,fun hx=>?_⟩
    · rcases (inS_cons _ _ _).1 ((h x).1 ((inS_cons _ _ _).2 (.inr hx))) with e|e
      · obtain ⟨u,hu,e2⟩:=hx;have:=a2 u hu;omega
      · exact e
    · rcases (inS_cons _ _ _).1 ((h x).2 ((inS_cons _ _ _).2 (.inr hx))) with e|e
      · obtain ⟨u,hu,e2⟩:=hx;have:=b2 u hu;omega
      · exact e
theorem set_empty {a : List Sp} (ha : SetP a) (h : ∀ x,¬ inS a x) : a = []:=set_ext ha .nil fun x=>⟨fun e=>absurd e (h x),fun e=>absurd e (inS_nil x)⟩
def SetI (l : List Sp) : Prop:=∀ (i : Nat) (h : i < l.length),l[i].f < l[i].t ∧ ∀ h0 : 0 < i,(l[i - 1]'(by omega)).t < l[i].f
theorem setI_iff (l : List Sp) : SetI l ↔ SetP l:=by
  constructor
  · intro h
    refine ⟨fun s hs=>?_,List.pairwise_iff_getElem.2 ?_⟩
    · obtain ⟨i,hi,rfl⟩:=List.getElem_of_mem hs
      exact (h i hi).1
    · intro i j hi hj hij
      induction j with
      | zero=>omega
      | succ j ih =>
        have h1:=(h (j + 1) hj).2 (by omega)
        simp only [Nat.add_sub_cancel] at h1
        rcases Nat.lt_or_ge i j with g|g
        · have h2:=ih (by omega) g
          have h3:=(h j (by omega)).1
          omega
        · have e : i = j:=by omega
          subst e;exact h1
  · rintro ⟨h1,h2⟩ i hi
    exact ⟨h1 _ (List.getElem_mem _),fun h0=>List.pairwise_iff_getElem.1 h2 (i - 1) i (by omega) hi (by omega)⟩
def jn (out : List Sp) (s : Sp) : List Sp :=
  match out.getLast? with
  | none=>out ++ [s]
  | some p=>if s.f ≤ p.t then out.dropLast ++ [⟨p.f,max p.t s.t⟩] else out ++ [s]
def J (m : List Sp) : List Sp:=m.foldl jn []
theorem jn_nil (s : Sp) : jn [] s = [s]:=rfl
theorem jn_snoc (o : List Sp) (p s : Sp) : jn (o ++ [p]) s = if s.f ≤ p.t then o ++ [⟨p.f,max p.t s.t⟩] else o ++ [p] ++ [s]:=by
  unfold jn;rw [List.getLast?_concat];simp only [List.dropLast_concat]
theorem J_snoc (m : List Sp) (s : Sp) : J (m ++ [s]) = jn (J m) s:=by unfold J;rw [List.foldl_append];rfl
theorem snoc_cases {α : Type} (l : List α) : l = [] ∨ ∃ m x,l = m ++ [x]:=by
  rcases List.eq_nil_or_concat l with h | ⟨m,x,h⟩
  · exact .inl h
  · exact .inr ⟨m,x,by rw [h,List.concat_eq_append]⟩
theorem snoc_ind {α : Type} {p : List α → Prop} (h0 : p []) (h1 : ∀ m x,p m → p (m ++ [x])) : ∀ l,p l:=fun l=>by
  have : ∀ (n : Nat) (l : List α),l.length = n → p l:=fun n=>by
    induction n with
    | zero=>intro l hl;rw [List.length_eq_zero_iff.1 hl];exact h0
    | succ n ih =>
      intro l hl
      rcases snoc_cases l with rfl | ⟨m,x,rfl⟩
      · exact h0
      · exact h1 m x (ih m (by simpa using hl))
  exact this _ l rfl
theorem setP_snoc {o : List Sp} {p : Sp} : SetP (o ++ [p]) ↔ SetP o ∧ p.f < p.t ∧ ∀ s,s ∈ o → s.t < p.f:=by
  constructor
  · rintro ⟨h1,h2⟩
    obtain ⟨g1,g2,g3⟩:=List.pairwise_append.1 h2
    exact ⟨⟨fun s hs=>h1 s (List.mem_append_left _ hs),g1⟩,h1 p (by simp),fun s hs=>g3 s hs p (by simp)⟩
  · rintro ⟨h1,h2,h3⟩
    exact setP_append h1 (setP_one h2) fun s hs r hr=>by rw [List.mem_singleton.1 hr];exact h3 s hs
theorem inS_one (p : Sp) (x : Int) : inS [p] x ↔ p.f ≤ x ∧ x < p.t:=by
  rw [inS_cons];exact ⟨fun h=>by rcases h with h|h;exact h;exact absurd h (inS_nil x),.inl⟩
theorem J_ok : ∀ m : List Sp,neS m → m.Pairwise (fun a b=>a.f ≤ b.f) → SetP (J m) ∧ (∀ x,inS (J m) x ↔ inS m x) ∧ ∀ p,(J m).getLast? = some p → ∃ s,s ∈ m ∧ p.f = s.f:=by
  refine snoc_ind ?_ ?_
  · intro _ _;exact ⟨.nil,fun x=>Iff.rfl,fun p h=>by simp [J] at h⟩
  · intro m s ih hn hp
    obtain ⟨g1,_,g3⟩:=List.pairwise_append.1 hp
    obtain ⟨i1,i2,i3⟩:=ih (fun r hr=>hn r (List.mem_append_left _ hr)) g1
    have hs : s.f < s.t:=hn s (by simp)
    rw [J_snoc]
    rcases snoc_cases (J m) with e | ⟨o,p,e⟩
    · rw [e,jn_nil]
      refine ⟨setP_one hs,fun x=>?_,fun p h=>?_⟩
      · rw [inS_append,← i2 x,e];exact ⟨.inr,fun h=>by rcases h with h|h;exact absurd h (inS_nil x);exact h⟩
      · simp at h;subst h;exact ⟨s,by simp,rfl⟩
    · rw [e] at i1 i2 i3
      obtain ⟨k1,k2,k3⟩:=setP_snoc.1 i1
      obtain ⟨q,hq,hqf⟩:=i3 p (by simp)
      have hle : p.f ≤ s.f:=by rw [hqf];exact g3 q hq s (by simp)
      rw [e,jn_snoc]
      by_cases h : s.f ≤ p.t
      · rw [if_pos h]
        refine ⟨setP_snoc.2 ⟨k1,by show p.f < max p.t s.t;omega,k3⟩,fun x=>?_,fun r hr=>?_⟩
        · rw [inS_append,inS_one,inS_append,inS_one,← i2 x,inS_append,inS_one]
          simp only []
          constructor
          · rintro (h1|h1)
            · exact .inl (.inl h1)
            · by_cases h2 : x < p.t
              · exact .inl (.inr ⟨h1.1,h2⟩)
              · exact .inr (by omega)
          · rintro ((h1|h1)|h1)
            · exact .inl h1
            · exact .inr (by omega)
            · exact .inr (by omega)
        · simp at hr;subst hr;exact ⟨q,List.mem_append_left _ hq,hqf⟩
      · rw [if_neg h]
        refine ⟨setP_snoc.2 ⟨i1,hs,fun r hr=>?_⟩,fun x=>?_,fun r hr=>?_⟩
        · rcases List.mem_append.1 hr with h1|h1
          · have:=k3 r h1;omega
          · rw [List.mem_singleton.1 h1];omega
        · rw [inS_append,inS_append m,← i2 x]
        · simp at hr;subst hr;exact ⟨s,by simp,rfl⟩
def meetL (a b : List Sp) : List Sp :=
  match a,b with
  | s :: a,r :: b=>(if max s.f r.f < min s.t r.t then [⟨max s.f r.f,min s.t r.t⟩] else []) ++ (if s.t < r.t then meetL a (r :: b) else meetL (s :: a) b)
  | [],_=>[]
  | _ :: _,[]=>[]
termination_by a.length + b.length
decreasing_by all_goals (simp;try omega)
theorem meetL_nil (b : List Sp) : meetL [] b = []:=by unfold meetL;rfl
theorem meetL_nil2 (a : List Sp) : meetL a [] = []:=by cases a <;> (unfold meetL;rfl)
theorem meetL_cons (s r : Sp) (a b : List Sp) : meetL (s :: a) (r :: b) = (if max s.f r.f < min s.t r.t then [⟨max s.f r.f,min s.t r.t⟩] else []) ++ (if s.t < r.t then meetL a (r :: b) else meetL (s :: a) b):=by rw [meetL]
theorem meet_of : ∀ (n : Nat) (a b : List Sp),a.length + b.length ≤ n → ∀ u,u ∈ meetL a b → ∃ p,p ∈ a ∧ ∃ q,q ∈ b ∧ u.f = max p.f q.f ∧ u.t = min p.t q.t ∧ u.f < u.t
  | _,[],b,_,u,h=>by rw [meetL_nil] at h;simp at h
  | _,_ :: _,[],_,u,h=>by rw [meetL_nil2] at h;simp at h
  | 0,_ :: _,_ :: _,h,_,_=>by simp at h
  | n + 1,s :: a,r :: b,hn,u,h=>by
    rw [meetL_cons] at h
    simp only [List.length_cons] at hn
    rcases List.mem_append.1 h with h|h
    · split at h
      · rw [List.mem_singleton.1 h];exact ⟨s,List.mem_cons_self,r,List.mem_cons_self,rfl,rfl,by assumption⟩
      · simp at h
    · split at h
      · obtain ⟨p,hp,q,hq,e⟩:=meet_of n a (r :: b) (by simp;omega) u h
        exact ⟨p,List.mem_cons_of_mem _ hp,q,hq,e⟩
      · obtain ⟨p,hp,q,hq,e⟩:=meet_of n (s :: a) b (by simp;omega) u h
        exact ⟨p,hp,q,List.mem_cons_of_mem _ hq,e⟩
theorem meet_ok : ∀ (n : Nat) (a b : List Sp),a.length + b.length ≤ n → SetP a → SetP b → SetP (meetL a b) ∧ ∀ x,inS (meetL a b) x ↔ (inS a x ∧ inS b x)
  | _,[],b,_,_,_=>by rw [meetL_nil];exact ⟨.nil,fun x=>⟨fun h=>absurd h (inS_nil x),fun h=>absurd h.1 (inS_nil x)⟩⟩
  | _,_ :: _,[],_,_,_=>by rw [meetL_nil2];exact ⟨.nil,fun x=>⟨fun h=>absurd h (inS_nil x),fun h=>absurd h.2 (inS_nil x)⟩⟩
  | 0,_ :: _,_ :: _,h,_,_=>by simp at h
  | n + 1,s :: a,r :: b,hn,ha,hb=>by
    simp only [List.length_cons] at hn
    obtain ⟨a1,a2,a3⟩:=setP_cons.1 ha
    obtain ⟨b1,b2,b3⟩:=setP_cons.1 hb
    rw [meetL_cons]
    have hone : SetP (if max s.f r.f < min s.t r.t then [(⟨max s.f r.f,min s.t r.t⟩ : Sp)] else []):=by
      split
      · exact setP_one (by assumption)
      · exact .nil
    have hone2 : ∀ x,inS (if max s.f r.f < min s.t r.t then [(⟨max s.f r.f,min s.t r.t⟩ : Sp)] else []) x ↔ ((s.f ≤ x ∧ x < s.t) ∧ (r.f ≤ x ∧ x < r.t)):=fun x=>by
      split
      · rw [inS_one];simp only [];omega
      · exact ⟨fun h=>absurd h (inS_nil x),fun h=>by omega⟩
    have hb1 : ∀ u,u ∈ (if max s.f r.f < min s.t r.t then [(⟨max s.f r.f,min s.t r.t⟩ : Sp)] else []) → u.t = min s.t r.t:=fun u hu=>by
      split at hu
      · rw [List.mem_singleton.1 hu]
      · simp at hu
    by_cases hc : s.t < r.t
    · rw [if_pos hc]
      obtain ⟨k1,k2⟩:=meet_ok n a (r :: b) (by simp;omega) a3 hb
      refine ⟨setP_append hone k1 fun u hu v hv=>?_,fun x=>?_⟩
      · obtain ⟨p,hp,q,hq,e1,_⟩:=meet_of _ _ _ (Nat.le_refl _) v hv
        have:=a2 p hp;have:=hb1 u hu;omega
      · rw [inS_append,hone2,k2,inS_cons,inS_cons]
        constructor
        · rintro (h|h)
          · exact ⟨.inl h.1,.inl h.2⟩
          · exact ⟨.inr h.1,h.2⟩
        · rintro ⟨h|h,h2⟩
          · rcases h2 with h2 | ⟨v,hv,h2⟩
            · exact .inl ⟨h,h2⟩
            · have:=b2 v hv;omega
          · exact .inr ⟨h,h2⟩
    · rw [if_neg hc]
      obtain ⟨k1,k2⟩:=meet_ok n (s :: a) b (by simp;omega) ha b3
      refine ⟨setP_append hone k1 fun u hu v hv=>?_,fun x=>?_⟩
      · obtain ⟨p,hp,q,hq,e1,_⟩:=meet_of _ _ _ (Nat.le_refl _) v hv
        have:=b2 q hq;have:=hb1 u hu;omega
      · rw [inS_append,hone2,k2,inS_cons,inS_cons]
        constructor
        · rintro (h|h)
          · exact ⟨.inl h.1,.inl h.2⟩
          · exact ⟨h.1,.inr h.2⟩
        · rintro ⟨h,h2|h2⟩
          · rcases h with h | ⟨v,hv,h⟩
            · exact .inl ⟨h,h2⟩
            · have:=a2 v hv;omega
          · exact .inr ⟨h,h2⟩
abbrev loT : Int:=-9223372036854775808
abbrev hiT : Int:=9223372036854775807
def restL (at_ : Int) : List Sp → List Sp
  | []=>if at_ < hiT then [⟨at_,hiT⟩] else []
  | s :: l=>(if at_ < s.f then [⟨at_,s.f⟩] else []) ++ restL s.t l
def rngS (l : List Sp) : Prop:=∀ s,s ∈ l → (loT ≤ s.f ∧ s.f ≤ hiT) ∧ loT ≤ s.t ∧ s.t ≤ hiT
theorem rest_ge : ∀ (l : List Sp) (a : Int),SetP l → (∀ s,s ∈ l → a ≤ s.f) → ∀ u,u ∈ restL a l → a ≤ u.f
  | [],a,_,_,u,h=>by
    unfold restL at h;split at h
    · rw [List.mem_singleton.1 h];exact Int.le_refl _
    · simp at h
  | s :: l,a,hs,hl,u,h=>by
    obtain ⟨h1,h2,h3⟩:=setP_cons.1 hs
    unfold restL at h
    rcases List.mem_append.1 h with h|h
    · split at h
      · rw [List.mem_singleton.1 h];exact Int.le_refl _
      · simp at h
    · have:=rest_ge l s.t h3 (fun r hr=>Int.le_of_lt (h2 r hr)) u h
      have:=hl s List.mem_cons_self
      omega
theorem rest_ok : ∀ (l : List Sp) (a : Int),SetP l → rngS l → (∀ s,s ∈ l → a ≤ s.f) → SetP (restL a l) ∧ ∀ x,inS (restL a l) x ↔ (a ≤ x ∧ x < hiT ∧ ¬ inS l x)
  | [],a,_,_,_=>by
    unfold restL;split
    · exact ⟨setP_one (by assumption),fun x=>by rw [inS_one];exact ⟨fun h=>⟨h.1,h.2,inS_nil x⟩,fun h=>⟨h.1,h.2.1⟩⟩⟩
    · exact ⟨.nil,fun x=>⟨fun h=>absurd h (inS_nil x),fun h=>by omega⟩⟩
  | s :: l, a,hs,hr,hl=>by
    obtain ⟨h1,h2,h3⟩:=setP_cons.1 hs
    have hle:=hl s List.mem_cons_self
    have hrs:=hr s List.mem_cons_self
    obtain ⟨k1,k2⟩:=rest_ok l s.t h3 (fun r e=>hr r (List.mem_cons_of_mem _ e)) (fun r e=>Int.le_of_lt (h2 r e))
    have k3:=rest_ge l s.t h3 (fun r e=>Int.le_of_lt (h2 r e))
    unfold restL
    constructor
    · refine setP_append (by split;exact setP_one (by assumption);exact .nil) k1 fun u hu v hv=>?_
      have:=k3 v hv
      split at hu
      · rw [List.mem_singleton.1 hu];simp only [];omega
      · simp at hu
    · intro x
      rw [inS_append,k2,inS_cons]
      have e1 : inS (if a < s.f then [(⟨a,s.f⟩ : Sp)] else []) x ↔ (a ≤ x ∧ x < s.f):=by
        split
        · rw [inS_one]
        · exact ⟨fun h=>absurd h (inS_nil x),fun h=>by omega⟩
      rw [e1]
      constructor
      · rintro (h|h)
        · refine ⟨h.1,by omega,?_⟩
          rintro (g | ⟨u,hu,g⟩)
          · omega
          · have:=h2 u hu;omega
        · refine ⟨by omega,h.2.1,?_⟩
          rintro (g|g)
          · omega
          · exact h.2.2 g
      · rintro ⟨g1,g2,g3⟩
        by_cases h : x < s.f
        · exact .inl ⟨g1,h⟩
        · have : s.t ≤ x:=by
            rcases Int.lt_or_le x s.t with e|e
            · exact absurd (.inl ⟨by omega,e⟩) g3
            · exact e
          exact .inr ⟨this,g2,fun e=>g3 (.inr e)⟩
end Go.Proofs

namespace Go.Proofs
def jo (o : List Sp) (x y : Int) : List Sp :=
  match o.getLast? with
  | none=>o ++ [⟨x,y⟩]
  | some p=>if p.t = x then o.dropLast ++ [⟨p.f,y⟩] else o ++ [⟨x,y⟩]
theorem jo_nil (x y : Int) : jo [] x y = [⟨x,y⟩]:=rfl
theorem jo_snoc (o : List Sp) (p : Sp) (x y : Int) : jo (o ++ [p]) x y = if p.t = x then o ++ [⟨p.f,y⟩] else o ++ [p] ++ [⟨x,y⟩]:=by
  unfold jo;rw [List.getLast?_concat];simp only [List.dropLast_concat]
theorem jo_len (o : List Sp) (x y : Int) : (jo o x y).length ≤ o.length + 1:=by
  rcases snoc_cases o with rfl | ⟨o,p,rfl⟩
  · simp [jo_nil]
  · rw [jo_snoc];split <;> simp
def ofI (g : Nat → Int) (sel : Int → Bool) : Nat → List Sp
  | 0=>[]
  | j + 1=>if sel (g j) then jo (ofI g sel j) (g j) (g (j + 1)) else ofI g sel j
theorem ofI_len (g : Nat → Int) (sel : Int → Bool) : ∀ j,(ofI g sel j).length ≤ j
  | 0=>by simp [ofI]
  | j + 1=>by
    have:=ofI_len g sel j
    have h2:=jo_len (ofI g sel j) (g j) (g (j + 1))
    unfold ofI;split <;> omega
theorem ofI_ok {g : Nat → Int} {n : Nat} (sel : Int → Bool) (hm : ∀ i j,i < j → j < n → g i < g j) : ∀ j,j < n →
    SetP (ofI g sel j) ∧ (∀ x,inS (ofI g sel j) x ↔ ∃ i,i < j ∧ g i ≤ x ∧ x < g (i + 1) ∧ sel (g i) = true) ∧ ∀ p,p ∈ ofI g sel j → p.t ≤ g j
  | 0,_=>⟨.nil,fun x=>⟨fun h=>absurd h (inS_nil x),fun ⟨i,h,_⟩=>by omega⟩,fun p h=>by simp [ofI] at h⟩
  | j + 1, hj => by
    obtain ⟨h1,h2,h3⟩:=ofI_ok sel hm j (by omega)
    have hlt:=hm j (j + 1) (by omega) hj
    have hstep : ∀ x,(∃ i,i < j + 1 ∧ g i ≤ x ∧ x < g (i + 1) ∧ sel (g i) = true) ↔ (inS (ofI g sel j) x ∨ (g j ≤ x ∧ x < g (j + 1) ∧ sel (g j) = true)):=fun x=>by
      rw [h2]
      constructor
      · rintro ⟨i,hi,h⟩
        by_cases e : i = j
        · subst e;exact .inr h
        · exact .inl ⟨i,by omega,h⟩
      · rintro (⟨i,hi,h⟩|h)
        · exact ⟨i,by omega,h⟩
        · exact ⟨j,by omega,h⟩
    by_cases hs : sel (g j) = true
    · have e : ofI g sel (j + 1) = jo (ofI g sel j) (g j) (g (j + 1)):=by rw [ofI,if_pos hs]
      rw [e]
      simp only [hstep,hs,and_true]
      rcases snoc_cases (ofI g sel j) with e0 | ⟨o,p,e0⟩
      · rw [e0,jo_nil]
        exact ⟨setP_one hlt,fun x=>by rw [inS_one];exact ⟨.inr,fun h=>h.elim (fun h=>absurd h (inS_nil x)) id⟩,fun q hq=>by rw [List.mem_singleton.1 hq];exact Int.le_refl _⟩
      · rw [e0] at h1 h3 ⊢
        obtain ⟨k1,k2,k3⟩:=setP_snoc.1 h1
        have hp:=h3 p (by simp)
        rw [jo_snoc]
        by_cases hc : p.t = g j
        · rw [if_pos hc]
          refine ⟨setP_snoc.2 ⟨k1,by show p.f < g (j + 1);omega,k3⟩,fun x=>?_,fun q hq=>?_⟩
          · rw [inS_append,inS_one,inS_append,inS_one]
            constructor
            · rintro (h|h)
              · exact .inl (.inl h)
              · by_cases hx : x < p.t
                · exact .inl (.inr ⟨h.1,hx⟩)
                · exact .inr ⟨by omega,h.2⟩
            · rintro ((h|h)|h)
              · exact .inl h
              · exact .inr ⟨h.1,by have:=h.2;show x < g (j + 1);omega⟩
              · exact .inr ⟨by show p.f ≤ x;omega,h.2⟩
          · rcases List.mem_append.1 hq with hq|hq
            · have:=k3 q hq;omega
            · rw [List.mem_singleton.1 hq];exact Int.le_refl _
        · rw [if_neg hc]
          refine ⟨setP_snoc.2 ⟨h1,hlt,fun q hq=>?_⟩,fun x=>?_,fun q hq=>?_⟩
          · rcases List.mem_append.1 hq with hq|hq
            · have:=k3 q hq;show q.t < g j;omega
            · rw [List.mem_singleton.1 hq];show p.t < g j;omega
          · rw [inS_append,inS_one]
          · rcases List.mem_append.1 hq with hq|hq
            · have:=h3 q hq;omega
            · rw [List.mem_singleton.1 hq];exact Int.le_refl _
    · have e : ofI g sel (j + 1) = ofI g sel j:=by rw [ofI,if_neg hs]
      rw [e]
      simp only [hstep]
      exact ⟨h1,fun x=>⟨.inl,fun h=>h.elim id (fun h=>absurd h.2.2 hs)⟩,fun p hp=>by have:=h3 p hp;omega⟩
theorem seg_of {g : Nat → Int} {x : Int} : ∀ (d k m : Nat),m = k + d → g k ≤ x → x < g m → ∃ i,k ≤ i ∧ i < m ∧ g i ≤ x ∧ x < g (i + 1)
  | 0,k,m,h,h1,h2=>by rw [Nat.add_zero] at h;subst h;omega
  | d + 1,k,m,h,h1,h2=>by
    by_cases hc : x < g (k + 1)
    · exact ⟨k,Nat.le_refl _,by omega,h1,hc⟩
    · obtain ⟨i,a,b,c⟩:=seg_of d (k + 1) m (by omega) (by omega) h2
      exact ⟨i,by omega,b,c⟩
theorem inS_const {g : Nat → Int} {n i : Nat} {x : Int} {l : List Sp} (hm : ∀ i j,i < j → j < n → g i < g j) (hp : ∀ s,s ∈ l → (∃ k,k < n ∧ g k = s.f) ∧ ∃ m,m < n ∧ g m = s.t) (hi : i + 1 < n) (h1 : g i ≤ x) (h2 : x < g (i + 1)) : inS l x ↔ inS l (g i):=by
  have mono : ∀ k,k < n → (g k ≤ g i ↔ k ≤ i):=fun k hk=>by
    rcases Nat.lt_trichotomy k i with h|h|h
    · have:=hm k i h (by omega);omega
    · subst h;simp
    · have:=hm i k h hk;omega
  have mono2 : ∀ k,k < n → (g (i + 1) ≤ g k ↔ i < k):=fun k hk=>by
    rcases Nat.lt_trichotomy k (i + 1) with h|h|h
    · have:=hm k (i + 1) h hi;omega
    · subst h;simp
    · have:=hm (i + 1) k h hk;omega
  constructor
  · rintro ⟨s,hs,a,b⟩
    obtain ⟨⟨k,hk,ek⟩,m,hm',em⟩:=hp s hs
    refine ⟨s,hs,?_,by omega⟩
    rcases Nat.lt_or_ge i k with h|h
    · have:=(mono2 k hk).2 h;omega
    · have:=(mono k hk).2 h;omega
  · rintro ⟨s,hs,a,b⟩
    obtain ⟨⟨k,hk,ek⟩,m,hm',em⟩:=hp s hs
    refine ⟨s,hs,by omega,?_⟩
    rcases Nat.lt_or_ge i m with h|h
    · have:=(mono2 m hm').2 h;omega
    · have:=(mono m hm').2 h;omega
theorem of_ok {g : Nat → Int} {n : Nat} {a b : List Sp} {sel : Int → Bool} {C : Prop → Prop → Prop} (hm : ∀ i j,i < j → j < n → g i < g j)
    (hp : ∀ s,s ∈ a ++ b → (∃ k,k < n ∧ g k = s.f) ∧ ∃ m,m < n ∧ g m = s.t) (hsel : ∀ v,sel v = true ↔ C (inS a v) (inS b v)) (h0 : ∀ p q,C p q → p ∨ q) (hC : ∀ p q p' q',(p ↔ p') → (q ↔ q') → C p q → C p' q') :
    SetP (ofI g sel (n - 1)) ∧ ∀ x,inS (ofI g sel (n - 1)) x ↔ C (inS a x) (inS b x):=by
  have hpa : ∀ s,s ∈ a → (∃ k,k < n ∧ g k = s.f) ∧ ∃ m,m < n ∧ g m = s.t:=fun s hs=>hp s (List.mem_append_left _ hs)
  have hpb : ∀ s,s ∈ b → (∃ k,k < n ∧ g k = s.f) ∧ ∃ m,m < n ∧ g m = s.t:=fun s hs=>hp s (List.mem_append_right _ hs)
  rcases Nat.eq_zero_or_pos n with rfl|hn
  · refine ⟨.nil,fun x=>⟨fun h=>absurd h (inS_nil x),fun h=>?_⟩⟩
    rcases h0 _ _ h with ⟨s,hs,_⟩ | ⟨s,hs,_⟩
    · obtain ⟨⟨k,hk,_⟩,_⟩:=hpa s hs;omega
    · obtain ⟨⟨k,hk,_⟩,_⟩:=hpb s hs;omega
  · obtain ⟨k1,k2,_⟩:=ofI_ok sel hm (n - 1) (by omega)
    refine ⟨k1,fun x=>(k2 x).trans ⟨?_,fun h=>?_⟩⟩
    · rintro ⟨i,hi,h1,h2,h3⟩
      exact hC _ _ _ _ (inS_const hm hpa (by omega) h1 h2).symm (inS_const hm hpb (by omega) h1 h2).symm ((hsel _).1 h3)
    · have hex : ∃ k m,k < n ∧ m < n ∧ g k ≤ x ∧ x < g m:=by
        rcases h0 _ _ h with ⟨s,hs,e1,e2⟩ | ⟨s,hs,e1,e2⟩
        · obtain ⟨⟨k,hk,ek⟩,m,hm',em⟩:=hpa s hs;exact ⟨k,m,hk,hm',by omega,by omega⟩
        · obtain ⟨⟨k,hk,ek⟩,m,hm',em⟩:=hpb s hs;exact ⟨k,m,hk,hm',by omega,by omega⟩
      obtain ⟨k,m,hk,hm',e1,e2⟩:=hex
      have hkm : k < m:=by
        rcases Nat.lt_trichotomy k m with h|h|h
        · exact h
        · subst h;omega
        · have:=hm m k h hk;omega
      obtain ⟨i,q1,q2,q3,q4⟩:=seg_of (m - k) k m (by omega) e1 e2
      exact ⟨i,by omega,q3,q4,(hsel _).2 (hC _ _ _ _ (inS_const hm hpa (by omega) q3 q4) (inS_const hm hpb (by omega) q3 q4) h)⟩
end Go.Proofs
