/- The facts on a seat's types, as instances of the abstract logic's classes. No condition. -/
import Derived.Test.YtjojdiefnhbglaaGreatOpen
import Derived.Test.YtjojdiefnhbglaaGreatOps17
import Derived.Test.YtjojdiefnhbglaaGreatProg
import Derived.Test.YtjojdiefnhbglaaGreatOps7
import Derived.Test.YtjojdiefnhbglaaGreatBase
import Derived.Test.YtjojdiefnhbglaaGreatOps12
set_option linter.all false
namespace Go.Proofs
open Go.AL
instance : Und Tryz.prog 2 (.int .i64):=⟨Tryz.underlying2⟩
instance : Cel Tryz.prog 2 1:=⟨by kernel_rfl⟩
instance : Siz Tryz.prog 2 1:=⟨Tryz.sizeOf2⟩
instance : Agg Tryz.prog 2 false:=⟨Tryz.isAgg2⟩
instance : Zer Tryz.prog 2 (.int .i64 0):=⟨Tryz.zeroValue2⟩
instance : Inf Tryz.prog 2 1 8 (.int .i64 0):=⟨inf_of (by kernel_rfl)⟩
instance : Und Tryz.prog 3 (.int .i64):=⟨Tryz.underlying3⟩
instance : Cel Tryz.prog 3 1:=⟨by kernel_rfl⟩
instance : Siz Tryz.prog 3 1:=⟨Tryz.sizeOf3⟩
instance : Agg Tryz.prog 3 false:=⟨Tryz.isAgg3⟩
instance : Zer Tryz.prog 3 (.int .i64 0):=⟨Tryz.zeroValue3⟩
instance : Und Tryz.prog 4 .bool:=⟨Tryz.underlying4⟩
instance : Cel Tryz.prog 4 1:=⟨by kernel_rfl⟩
instance : Siz Tryz.prog 4 1:=⟨Tryz.sizeOf4⟩
instance : Agg Tryz.prog 4 false:=⟨Tryz.isAgg4⟩
instance : Zer Tryz.prog 4 (.bool false):=⟨Tryz.zeroValue4⟩
instance : Inf Tryz.prog 4 1 1 (.bool false):=⟨inf_of (by kernel_rfl)⟩
instance : Und Tryz.prog 5 (.int .u8):=⟨Tryz.underlying5⟩
instance : Siz Tryz.prog 5 1:=⟨Tryz.sizeOf5⟩
instance : Agg Tryz.prog 5 false:=⟨Tryz.isAgg5⟩
instance : Zer Tryz.prog 5 (.int .u8 0):=⟨Tryz.zeroValue5⟩
instance : Inf Tryz.prog 5 1 1 (.int .u8 0):=⟨inf_of (by kernel_rfl)⟩
instance : Und Tryz.prog 9 .string:=⟨Tryz.underlying9⟩
instance : Cel Tryz.prog 9 1:=⟨by kernel_rfl⟩
instance : Siz Tryz.prog 9 1:=⟨Tryz.sizeOf9⟩
instance : Agg Tryz.prog 9 false:=⟨Tryz.isAgg9⟩
instance : Und Tryz.prog 22 (.slice 48):=⟨Tryz.underlying22⟩
instance : Siz Tryz.prog 22 1:=⟨Tryz.sizeOf22⟩
instance : Agg Tryz.prog 22 false:=⟨Tryz.isAgg22⟩
instance : Zer Tryz.prog 22 (.slice none 0 0):=⟨Tryz.zeroValue22⟩
instance : Und Tryz.prog 23 (.slice 58):=⟨Tryz.underlying23⟩
instance : Siz Tryz.prog 23 1:=⟨Tryz.sizeOf23⟩
instance : Agg Tryz.prog 23 false:=⟨Tryz.isAgg23⟩
instance : Zer Tryz.prog 23 (.slice none 0 0):=⟨Tryz.zeroValue23⟩
instance : Cel Tryz.prog 25 5:=⟨by kernel_rfl⟩
instance : Siz Tryz.prog 25 5:=⟨Tryz.sizeOf25⟩
instance : Agg Tryz.prog 25 true:=⟨Tryz.isAgg25⟩
instance : Fld Tryz.prog 25 0 0:=⟨fun w a=>by simp [Instr.fieldAt,Instr.sureAddr,fieldPlace,Tryz.runUnderlying25,Tryz.sizeOf2]⟩
instance : Fld Tryz.prog 25 1 1:=⟨fun w a=>by simp [Instr.fieldAt,Instr.sureAddr,fieldPlace,Tryz.runUnderlying25,Tryz.sizeOf2]⟩
instance : Fld Tryz.prog 25 2 2:=⟨fun w a=>by simp [Instr.fieldAt,Instr.sureAddr,fieldPlace,Tryz.runUnderlying25,Tryz.sizeOf2]⟩
instance : Fld Tryz.prog 25 3 3:=⟨fun w a=>by simp [Instr.fieldAt,Instr.sureAddr,fieldPlace,Tryz.runUnderlying25,Tryz.sizeOf4]⟩
instance : Fld Tryz.prog 25 4 4:=⟨fun w a=>by simp [Instr.fieldAt,Instr.sureAddr,fieldPlace,Tryz.runUnderlying25,Tryz.sizeOf4]⟩
instance : Und Tryz.prog 28 (.pointer 97):=⟨Tryz.underlying28⟩
instance : Agg Tryz.prog 28 false:=⟨Tryz.isAgg28⟩
instance : Siz Tryz.prog 29 1:=⟨Tryz.sizeOf29⟩
instance : Agg Tryz.prog 29 false:=⟨Tryz.isAgg29⟩
instance : Zer Tryz.prog 29 (.int .i64 0):=⟨Tryz.zeroValue29⟩
instance : Und Tryz.prog 36 (.slice 54):=⟨Tryz.underlying36⟩
instance : Siz Tryz.prog 36 1:=⟨Tryz.sizeOf36⟩
instance : Agg Tryz.prog 36 false:=⟨Tryz.isAgg36⟩
instance : Zer Tryz.prog 36 (.slice none 0 0):=⟨Tryz.zeroValue36⟩
instance : Cel Tryz.prog 46 3:=⟨by kernel_rfl⟩
instance : Siz Tryz.prog 46 3:=⟨Tryz.sizeOf46⟩
instance : Agg Tryz.prog 46 true:=⟨Tryz.isAgg46⟩
instance : Zer Tryz.prog 46 (.agg #[.int .i64 0,.int .i64 0,.string ⟨#[]⟩]):=⟨Tryz.zeroValue46⟩
instance : Inf Tryz.prog 46 3 32 (.agg #[.int .i64 0,.int .i64 0,.string ⟨#[]⟩]):=⟨inf_of (by kernel_rfl)⟩
instance : Plc Tryz.prog 46 [(0,1),(1,1),(2,1)]:=⟨⟨_,Tryz.runUnderlying46,fun w=>by simp [Tryz.sizeOf2,Tryz.sizeOf3,Tryz.sizeOf9]⟩⟩
instance : Fld Tryz.prog 46 0 0:=⟨fun w a=>by simp [Instr.fieldAt,Instr.sureAddr,fieldPlace,Tryz.runUnderlying46,Tryz.sizeOf3]⟩
instance : Fld Tryz.prog 46 1 1:=⟨fun w a=>by simp [Instr.fieldAt,Instr.sureAddr,fieldPlace,Tryz.runUnderlying46,Tryz.sizeOf2]⟩
instance : Fld Tryz.prog 46 2 2:=⟨fun w a=>by simp [Instr.fieldAt,Instr.sureAddr,fieldPlace,Tryz.runUnderlying46,Tryz.sizeOf9]⟩
instance : Cel Tryz.prog 48 9:=⟨by kernel_rfl⟩
instance : Siz Tryz.prog 48 9:=⟨Tryz.sizeOf48⟩
instance : Agg Tryz.prog 48 true:=⟨Tryz.isAgg48⟩
instance : Zer Tryz.prog 48 (.agg #[.int .i64 0,.int .i64 0,.int .i64 0,.int .i64 0,.string ⟨#[]⟩,.int .i64 0,.bool false,.int .i64 0,.int .i64 0]):=⟨Tryz.zeroValue48⟩
instance : Inf Tryz.prog 48 9 80 (.agg #[.int .i64 0,.int .i64 0,.int .i64 0,.int .i64 0,.string ⟨#[]⟩,.int .i64 0,.bool false,.int .i64 0,.int .i64 0]):=⟨inf_of (by kernel_rfl)⟩
instance : Plc Tryz.prog 48 [(0,1),(1,1),(2,3),(5,1),(6,1),(7,1),(8,1)]:=⟨⟨_,Tryz.runUnderlying48,fun w=>by simp [Tryz.sizeOf2,Tryz.sizeOf4,Tryz.sizeOf46]⟩⟩
instance : Fld Tryz.prog 48 0 0:=⟨fun w a=>by simp [Instr.fieldAt,Instr.sureAddr,fieldPlace,Tryz.runUnderlying48,Tryz.sizeOf2]⟩
instance : Fld Tryz.prog 48 1 1:=⟨fun w a=>by simp [Instr.fieldAt,Instr.sureAddr,fieldPlace,Tryz.runUnderlying48,Tryz.sizeOf2]⟩
instance : Fld Tryz.prog 48 2 2:=⟨fun w a=>by simp [Instr.fieldAt,Instr.sureAddr,fieldPlace,Tryz.runUnderlying48,Tryz.sizeOf46]⟩
instance : Fld Tryz.prog 48 3 5:=⟨fun w a=>by simp [Instr.fieldAt,Instr.sureAddr,fieldPlace,Tryz.runUnderlying48,Tryz.sizeOf2]⟩
instance : Fld Tryz.prog 48 4 6:=⟨fun w a=>by simp [Instr.fieldAt,Instr.sureAddr,fieldPlace,Tryz.runUnderlying48,Tryz.sizeOf4]⟩
instance : Fld Tryz.prog 48 5 7:=⟨fun w a=>by simp [Instr.fieldAt,Instr.sureAddr,fieldPlace,Tryz.runUnderlying48,Tryz.sizeOf2]⟩
instance : Fld Tryz.prog 48 6 8:=⟨fun w a=>by simp [Instr.fieldAt,Instr.sureAddr,fieldPlace,Tryz.runUnderlying48,Tryz.sizeOf2]⟩
instance : Und Tryz.prog 52 (.slice 62):=⟨Tryz.underlying52⟩
instance : Siz Tryz.prog 52 1:=⟨Tryz.sizeOf52⟩
instance : Agg Tryz.prog 52 false:=⟨Tryz.isAgg52⟩
instance : Zer Tryz.prog 52 (.slice none 0 0):=⟨Tryz.zeroValue52⟩
instance : Siz Tryz.prog 54 6:=⟨Tryz.sizeOf54⟩
instance : Agg Tryz.prog 54 true:=⟨Tryz.isAgg54⟩
instance : Zer Tryz.prog 54 (.agg #[.int .i64 0,.int .i64 0,.int .i64 0,.int .i64 0,.string ⟨#[]⟩,.slice none 0 0]):=⟨Tryz.zeroValue54⟩
instance : Inf Tryz.prog 54 6 72 (.agg #[.int .i64 0,.int .i64 0,.int .i64 0,.int .i64 0,.string ⟨#[]⟩,.slice none 0 0]):=⟨inf_of (by kernel_rfl)⟩
instance : Plc Tryz.prog 54 [(0,1),(1,1),(2,3),(5,1)]:=⟨⟨_,Tryz.runUnderlying54,fun w=>by simp [Tryz.sizeOf2,Tryz.sizeOf46,Tryz.sizeOf52]⟩⟩
instance : Fld Tryz.prog 54 0 0:=⟨fun w a=>by simp [Instr.fieldAt,Instr.sureAddr,fieldPlace,Tryz.runUnderlying54,Tryz.sizeOf2]⟩
instance : Fld Tryz.prog 54 1 1:=⟨fun w a=>by simp [Instr.fieldAt,Instr.sureAddr,fieldPlace,Tryz.runUnderlying54,Tryz.sizeOf2]⟩
instance : Fld Tryz.prog 54 2 2:=⟨fun w a=>by simp [Instr.fieldAt,Instr.sureAddr,fieldPlace,Tryz.runUnderlying54,Tryz.sizeOf46]⟩
instance : Fld Tryz.prog 54 3 5:=⟨fun w a=>by simp [Instr.fieldAt,Instr.sureAddr,fieldPlace,Tryz.runUnderlying54,Tryz.sizeOf52]⟩
instance : Cel Tryz.prog 58 5:=⟨by kernel_rfl⟩
instance : Siz Tryz.prog 58 5:=⟨Tryz.sizeOf58⟩
instance : Agg Tryz.prog 58 true:=⟨Tryz.isAgg58⟩
instance : Zer Tryz.prog 58 (.agg #[.bool false,.int .i64 0,.int .i64 0,.int .i64 0,.string ⟨#[]⟩]):=⟨Tryz.zeroValue58⟩
instance : Inf Tryz.prog 58 5 48 (.agg #[.bool false,.int .i64 0,.int .i64 0,.int .i64 0,.string ⟨#[]⟩]):=⟨inf_of (by kernel_rfl)⟩
instance : Plc Tryz.prog 58 [(0,1),(1,1),(2,3)]:=⟨⟨_,Tryz.runUnderlying58,fun w=>by simp [Tryz.sizeOf2,Tryz.sizeOf4,Tryz.sizeOf46]⟩⟩
instance : Fld Tryz.prog 58 0 0:=⟨fun w a=>by simp [Instr.fieldAt,Instr.sureAddr,fieldPlace,Tryz.runUnderlying58,Tryz.sizeOf4]⟩
instance : Fld Tryz.prog 58 1 1:=⟨fun w a=>by simp [Instr.fieldAt,Instr.sureAddr,fieldPlace,Tryz.runUnderlying58,Tryz.sizeOf2]⟩
instance : Fld Tryz.prog 58 2 2:=⟨fun w a=>by simp [Instr.fieldAt,Instr.sureAddr,fieldPlace,Tryz.runUnderlying58,Tryz.sizeOf46]⟩
instance : Cel Tryz.prog 62 2:=⟨by kernel_rfl⟩
instance : Siz Tryz.prog 62 2:=⟨Tryz.sizeOf62⟩
instance : Agg Tryz.prog 62 true:=⟨Tryz.isAgg62⟩
instance : Zer Tryz.prog 62 (.agg #[.int .i64 0,.int .i64 0]):=⟨Tryz.zeroValue62⟩
instance : Inf Tryz.prog 62 2 16 (.agg #[.int .i64 0,.int .i64 0]):=⟨inf_of (by kernel_rfl)⟩
instance : Plc Tryz.prog 62 [(0,1),(1,1)]:=⟨⟨_,Tryz.runUnderlying62,fun w=>by simp [Tryz.sizeOf2]⟩⟩
instance : Fld Tryz.prog 62 0 0:=⟨fun w a=>by simp [Instr.fieldAt,Instr.sureAddr,fieldPlace,Tryz.runUnderlying62,Tryz.sizeOf2]⟩
instance : Fld Tryz.prog 62 1 1:=⟨fun w a=>by simp [Instr.fieldAt,Instr.sureAddr,fieldPlace,Tryz.runUnderlying62,Tryz.sizeOf2]⟩
instance : Und Tryz.prog 64 (.slice 71):=⟨Tryz.underlying64⟩
instance : Siz Tryz.prog 64 1:=⟨Tryz.sizeOf64⟩
instance : Agg Tryz.prog 64 false:=⟨Tryz.isAgg64⟩
instance : Zer Tryz.prog 64 (.slice none 0 0):=⟨Tryz.zeroValue64⟩
instance : Und Tryz.prog 67 (.slice 72):=⟨Tryz.underlying67⟩
instance : Siz Tryz.prog 71 12:=⟨Tryz.sizeOf71⟩
instance : Agg Tryz.prog 71 true:=⟨Tryz.isAgg71⟩
instance : Zer Tryz.prog 71 (.agg #[.int .i64 0,.int .i64 0,.int .i64 0,.int .i64 0,.int .i64 0,.int .i64 0,.int .i64 0,.int .i64 0,.string ⟨#[]⟩,.int .i64 0,.int .i64 0,.string ⟨#[]⟩]):=⟨Tryz.zeroValue71⟩
instance : Inf Tryz.prog 71 12 112 (.agg #[.int .i64 0,.int .i64 0,.int .i64 0,.int .i64 0,.int .i64 0,.int .i64 0,.int .i64 0,.int .i64 0,.string ⟨#[]⟩,.int .i64 0,.int .i64 0,.string ⟨#[]⟩]):=⟨inf_of (by kernel_rfl)⟩
instance : Plc Tryz.prog 71 [(0,1),(1,1),(2,1),(3,1),(4,1),(5,1),(6,3),(9,3)]:=⟨⟨_,Tryz.runUnderlying71,fun w=>by simp [Tryz.sizeOf2,Tryz.sizeOf3,Tryz.sizeOf46]⟩⟩
instance : Fld Tryz.prog 71 0 0:=⟨fun w a=>by simp [Instr.fieldAt,Instr.sureAddr,fieldPlace,Tryz.runUnderlying71,Tryz.sizeOf2]⟩
instance : Fld Tryz.prog 71 1 1:=⟨fun w a=>by simp [Instr.fieldAt,Instr.sureAddr,fieldPlace,Tryz.runUnderlying71,Tryz.sizeOf3]⟩
instance : Fld Tryz.prog 71 2 2:=⟨fun w a=>by simp [Instr.fieldAt,Instr.sureAddr,fieldPlace,Tryz.runUnderlying71,Tryz.sizeOf3]⟩
instance : Fld Tryz.prog 71 3 3:=⟨fun w a=>by simp [Instr.fieldAt,Instr.sureAddr,fieldPlace,Tryz.runUnderlying71,Tryz.sizeOf3]⟩
instance : Fld Tryz.prog 71 4 4:=⟨fun w a=>by simp [Instr.fieldAt,Instr.sureAddr,fieldPlace,Tryz.runUnderlying71,Tryz.sizeOf3]⟩
instance : Fld Tryz.prog 71 5 5:=⟨fun w a=>by simp [Instr.fieldAt,Instr.sureAddr,fieldPlace,Tryz.runUnderlying71,Tryz.sizeOf3]⟩
instance : Fld Tryz.prog 71 6 6:=⟨fun w a=>by simp [Instr.fieldAt,Instr.sureAddr,fieldPlace,Tryz.runUnderlying71,Tryz.sizeOf46]⟩
instance : Fld Tryz.prog 71 7 9:=⟨fun w a=>by simp [Instr.fieldAt,Instr.sureAddr,fieldPlace,Tryz.runUnderlying71,Tryz.sizeOf46]⟩
instance : Siz Tryz.prog 72 12:=⟨Tryz.sizeOf72⟩
instance : Agg Tryz.prog 72 true:=⟨Tryz.isAgg72⟩
instance : Zer Tryz.prog 72 (.agg #[.int .i64 0,.int .i64 0,.int .i64 0,.int .i64 0,.int .i64 0,.int .i64 0,.int .i64 0,.int .i64 0,.string ⟨#[]⟩,.int .i64 0,.int .i64 0,.string ⟨#[]⟩]):=⟨Tryz.zeroValue72⟩
instance : Inf Tryz.prog 72 12 112 (.agg #[.int .i64 0,.int .i64 0,.int .i64 0,.int .i64 0,.int .i64 0,.int .i64 0,.int .i64 0,.int .i64 0,.string ⟨#[]⟩,.int .i64 0,.int .i64 0,.string ⟨#[]⟩]):=⟨inf_of (by kernel_rfl)⟩
instance : Plc Tryz.prog 72 [(0,1),(1,1),(2,1),(3,1),(4,1),(5,1),(6,3),(9,3)]:=⟨⟨_,Tryz.runUnderlying72,fun w=>by simp [Tryz.sizeOf2,Tryz.sizeOf3,Tryz.sizeOf46]⟩⟩
instance : Fld Tryz.prog 72 0 0:=⟨fun w a=>by simp [Instr.fieldAt,Instr.sureAddr,fieldPlace,Tryz.runUnderlying72,Tryz.sizeOf2]⟩
instance : Fld Tryz.prog 72 1 1:=⟨fun w a=>by simp [Instr.fieldAt,Instr.sureAddr,fieldPlace,Tryz.runUnderlying72,Tryz.sizeOf3]⟩
instance : Fld Tryz.prog 72 2 2:=⟨fun w a=>by simp [Instr.fieldAt,Instr.sureAddr,fieldPlace,Tryz.runUnderlying72,Tryz.sizeOf3]⟩
instance : Fld Tryz.prog 72 3 3:=⟨fun w a=>by simp [Instr.fieldAt,Instr.sureAddr,fieldPlace,Tryz.runUnderlying72,Tryz.sizeOf3]⟩
instance : Fld Tryz.prog 72 4 4:=⟨fun w a=>by simp [Instr.fieldAt,Instr.sureAddr,fieldPlace,Tryz.runUnderlying72,Tryz.sizeOf3]⟩
instance : Fld Tryz.prog 72 5 5:=⟨fun w a=>by simp [Instr.fieldAt,Instr.sureAddr,fieldPlace,Tryz.runUnderlying72,Tryz.sizeOf3]⟩
instance : Fld Tryz.prog 72 6 6:=⟨fun w a=>by simp [Instr.fieldAt,Instr.sureAddr,fieldPlace,Tryz.runUnderlying72,Tryz.sizeOf46]⟩
instance : Fld Tryz.prog 72 7 9:=⟨fun w a=>by simp [Instr.fieldAt,Instr.sureAddr,fieldPlace,Tryz.runUnderlying72,Tryz.sizeOf46]⟩
instance : Und Tryz.prog 74 (.slice 80):=⟨Tryz.underlying74⟩
instance : Siz Tryz.prog 80 2:=⟨Tryz.sizeOf80⟩
instance : Agg Tryz.prog 80 true:=⟨Tryz.isAgg80⟩
instance : Zer Tryz.prog 80 (.agg #[.int .i64 0,.int .i64 0]):=⟨Tryz.zeroValue80⟩
instance : Inf Tryz.prog 80 2 16 (.agg #[.int .i64 0,.int .i64 0]):=⟨inf_of (by kernel_rfl)⟩
instance : Plc Tryz.prog 80 [(0,1),(1,1)]:=⟨⟨_,Tryz.runUnderlying80,fun w=>by simp [Tryz.sizeOf2,Tryz.sizeOf3]⟩⟩
instance : Fld Tryz.prog 80 0 0:=⟨fun w a=>by simp [Instr.fieldAt,Instr.sureAddr,fieldPlace,Tryz.runUnderlying80,Tryz.sizeOf2]⟩
instance : Fld Tryz.prog 80 1 1:=⟨fun w a=>by simp [Instr.fieldAt,Instr.sureAddr,fieldPlace,Tryz.runUnderlying80,Tryz.sizeOf3]⟩
instance : Und Tryz.prog 82 (.slice 90):=⟨Tryz.underlying82⟩
instance : Und Tryz.prog 85 (.array 8 3):=⟨Tryz.underlying85⟩
instance : Siz Tryz.prog 85 8:=⟨Tryz.sizeOf85⟩
instance : Agg Tryz.prog 85 true:=⟨Tryz.isAgg85⟩
instance : Zer Tryz.prog 85 (.agg #[.int .i64 0,.int .i64 0,.int .i64 0,.int .i64 0,.int .i64 0,.int .i64 0,.int .i64 0,.int .i64 0]):=⟨Tryz.zeroValue85⟩
instance : Siz Tryz.prog 90 3:=⟨Tryz.sizeOf90⟩
instance : Agg Tryz.prog 90 true:=⟨Tryz.isAgg90⟩
instance : Zer Tryz.prog 90 (.agg #[.int .i64 0,.int .i64 0,.int .i64 0]):=⟨Tryz.zeroValue90⟩
instance : Inf Tryz.prog 90 3 24 (.agg #[.int .i64 0,.int .i64 0,.int .i64 0]):=⟨inf_of (by kernel_rfl)⟩
instance : Plc Tryz.prog 90 [(0,1),(1,1),(2,1)]:=⟨⟨_,Tryz.runUnderlying90,fun w=>by simp [Tryz.sizeOf2,Tryz.sizeOf3]⟩⟩
instance : Fld Tryz.prog 90 0 0:=⟨fun w a=>by simp [Instr.fieldAt,Instr.sureAddr,fieldPlace,Tryz.runUnderlying90,Tryz.sizeOf2]⟩
instance : Fld Tryz.prog 90 1 1:=⟨fun w a=>by simp [Instr.fieldAt,Instr.sureAddr,fieldPlace,Tryz.runUnderlying90,Tryz.sizeOf3]⟩
instance : Fld Tryz.prog 90 2 2:=⟨fun w a=>by simp [Instr.fieldAt,Instr.sureAddr,fieldPlace,Tryz.runUnderlying90,Tryz.sizeOf3]⟩
instance : Und Tryz.prog 94 (.pointer 169):=⟨Tryz.underlying94⟩
instance : Siz Tryz.prog 94 1:=⟨Tryz.sizeOf94⟩
instance : Agg Tryz.prog 94 false:=⟨Tryz.isAgg94⟩
instance : Und Tryz.prog 95 (.array 5 94):=⟨Tryz.underlying95⟩
instance : Siz Tryz.prog 95 5:=⟨Tryz.sizeOf95⟩
instance : Agg Tryz.prog 95 true:=⟨Tryz.isAgg95⟩
instance : Zer Tryz.prog 97 (.agg #[.pointer none,.pointer none,.pointer none,.pointer none,.pointer none]):=⟨Tryz.zeroValue97⟩
instance : Plc Tryz.prog 97 [(0,5)]:=⟨⟨_,Tryz.runUnderlying97,fun w=>by simp [Tryz.sizeOf95]⟩⟩
instance : Fld Tryz.prog 97 0 0:=⟨fun w a=>by simp [Instr.fieldAt,Instr.sureAddr,fieldPlace,Tryz.runUnderlying97,Tryz.sizeOf95]⟩
instance : Und Tryz.prog 99 (.slice 5):=⟨Tryz.underlying99⟩
instance : Siz Tryz.prog 99 1:=⟨Tryz.sizeOf99⟩
instance : Agg Tryz.prog 99 false:=⟨Tryz.isAgg99⟩
instance : Zer Tryz.prog 99 (.slice none 0 0):=⟨Tryz.zeroValue99⟩
instance : Siz Tryz.prog 124 2:=⟨Tryz.sizeOf124⟩
instance : Agg Tryz.prog 124 true:=⟨Tryz.isAgg124⟩
instance : Zer Tryz.prog 124 (.agg #[.slice none 0 0,.slice none 0 0]):=⟨Tryz.zeroValue124⟩
instance : Inf Tryz.prog 124 2 48 (.agg #[.slice none 0 0,.slice none 0 0]):=⟨inf_of (by kernel_rfl)⟩
instance : Plc Tryz.prog 124 [(0,1),(1,1)]:=⟨⟨_,Tryz.runUnderlying124,fun w=>by simp [Tryz.sizeOf99]⟩⟩
instance : Fld Tryz.prog 124 0 0:=⟨fun w a=>by simp [Instr.fieldAt,Instr.sureAddr,fieldPlace,Tryz.runUnderlying124,Tryz.sizeOf99]⟩
instance : Und Tryz.prog 130 (.map 2 3):=⟨Tryz.underlying130⟩
instance : Siz Tryz.prog 130 1:=⟨Tryz.sizeOf130⟩
instance : Agg Tryz.prog 130 false:=⟨Tryz.isAgg130⟩
instance : Zer Tryz.prog 130 (.map none):=⟨Tryz.zeroValue130⟩
instance : Und Tryz.prog 136 (.slice 2):=⟨Tryz.underlying136⟩
instance : Und Tryz.prog 138 (.slice 46):=⟨Tryz.underlying138⟩
instance : Und Tryz.prog 162 (.pointer 213):=⟨Tryz.underlying162⟩
instance : Agg Tryz.prog 162 false:=⟨Tryz.isAgg162⟩
instance : Zer Tryz.prog 169 (.agg #[.pointer none]):=⟨Tryz.zeroValue169⟩
instance : Plc Tryz.prog 169 [(0,1)]:=⟨⟨_,Tryz.runUnderlying169,fun w=>by simp [Tryz.sizeOf162]⟩⟩
instance : Fld Tryz.prog 169 0 0:=⟨fun w a=>by simp [Instr.fieldAt,Instr.sureAddr,fieldPlace,Tryz.runUnderlying169,Tryz.sizeOf162]⟩
instance : Und Tryz.prog 175 (.slice 124):=⟨Tryz.underlying175⟩
instance : Siz Tryz.prog 175 1:=⟨Tryz.sizeOf175⟩
instance : Agg Tryz.prog 175 false:=⟨Tryz.isAgg175⟩
instance : Zer Tryz.prog 175 (.slice none 0 0):=⟨Tryz.zeroValue175⟩
instance : Und Tryz.prog 180 (.int .u64):=⟨Tryz.underlying180⟩
instance : Und Tryz.prog 189 (.slice 4):=⟨Tryz.underlying189⟩
instance : Siz Tryz.prog 189 1:=⟨Tryz.sizeOf189⟩
instance : Agg Tryz.prog 189 false:=⟨Tryz.isAgg189⟩
instance : Zer Tryz.prog 189 (.slice none 0 0):=⟨Tryz.zeroValue189⟩
instance : Zer Tryz.prog 213 (.agg #[.slice none 0 0,.slice none 0 0,.pointer none,.pointer none,.int .i64 0,.int .i64 0]):=⟨Tryz.zeroValue213⟩
instance : Plc Tryz.prog 213 [(0,1),(1,1),(2,1),(3,1),(4,1),(5,1)]:=⟨⟨_,Tryz.runUnderlying213,fun w=>by simp [Tryz.sizeOf162,Tryz.sizeOf3,Tryz.sizeOf99]⟩⟩
instance : Fld Tryz.prog 213 0 0:=⟨fun w a=>by simp [Instr.fieldAt,Instr.sureAddr,fieldPlace,Tryz.runUnderlying213,Tryz.sizeOf99]⟩
instance : Fld Tryz.prog 213 1 1:=⟨fun w a=>by simp [Instr.fieldAt,Instr.sureAddr,fieldPlace,Tryz.runUnderlying213,Tryz.sizeOf99]⟩
instance : Fld Tryz.prog 213 2 2:=⟨fun w a=>by simp [Instr.fieldAt,Instr.sureAddr,fieldPlace,Tryz.runUnderlying213,Tryz.sizeOf162]⟩
instance : Fld Tryz.prog 213 3 3:=⟨fun w a=>by simp [Instr.fieldAt,Instr.sureAddr,fieldPlace,Tryz.runUnderlying213,Tryz.sizeOf162]⟩
instance : Fld Tryz.prog 213 4 4:=⟨fun w a=>by simp [Instr.fieldAt,Instr.sureAddr,fieldPlace,Tryz.runUnderlying213,Tryz.sizeOf3]⟩
instance : Fld Tryz.prog 213 5 5:=⟨fun w a=>by simp [Instr.fieldAt,Instr.sureAddr,fieldPlace,Tryz.runUnderlying213,Tryz.sizeOf3]⟩
instance : Und Tryz.prog 217 (.array 3 58):=⟨Tryz.underlying217⟩
instance : Siz Tryz.prog 217 15:=⟨Tryz.sizeOf217⟩
instance : Agg Tryz.prog 217 true:=⟨Tryz.isAgg217⟩
instance : Zer Tryz.prog 217 (.agg #[.bool false,.int .i64 0,.int .i64 0,.int .i64 0,.string ⟨#[]⟩,.bool false,.int .i64 0,.int .i64 0,.int .i64 0,.string ⟨#[]⟩,.bool false,.int .i64 0,.int .i64 0,.int .i64 0,.string ⟨#[]⟩]):=⟨Tryz.zeroValue217⟩
instance : Und Tryz.prog 234 (.int .u64):=⟨Tryz.underlying234⟩
instance : Agg Tryz.prog 236 false:=⟨Tryz.isAgg236⟩
instance : Zer Tryz.prog 238 (.agg #[.slice none 0 0,.bool false]):=⟨Tryz.zeroValue238⟩
instance : Plc Tryz.prog 238 [(0,1),(1,1)]:=⟨⟨_,Tryz.runUnderlying238,fun w=>by simp [Tryz.sizeOf4,Tryz.sizeOf99]⟩⟩
instance : Fld Tryz.prog 238 0 0:=⟨fun w a=>by simp [Instr.fieldAt,Instr.sureAddr,fieldPlace,Tryz.runUnderlying238,Tryz.sizeOf99]⟩
instance : Fld Tryz.prog 238 1 1:=⟨fun w a=>by simp [Instr.fieldAt,Instr.sureAddr,fieldPlace,Tryz.runUnderlying238,Tryz.sizeOf4]⟩
instance : Und Tryz.prog 260 (.array 8 5):=⟨Tryz.underlying260⟩
instance : Siz Tryz.prog 260 8:=⟨Tryz.sizeOf260⟩
instance : Agg Tryz.prog 260 true:=⟨Tryz.isAgg260⟩
instance : Zer Tryz.prog 260 (.agg #[.int .u8 0,.int .u8 0,.int .u8 0,.int .u8 0,.int .u8 0,.int .u8 0,.int .u8 0,.int .u8 0]):=⟨Tryz.zeroValue260⟩
instance : Agg Tryz.prog 264 false:=⟨Tryz.isAgg264⟩
instance : Und Tryz.prog 280 (.slice 3):=⟨Tryz.underlying280⟩
instance : Und Tryz.prog 289 (.slice 52):=⟨Tryz.underlying289⟩
instance : Mix Tryz.prog:=⟨by decide⟩
end Go.Proofs

namespace Go.Proofs
open Go.AL
instance : EqF Tryz.prog 2 [.i .i64] 1:=eqf_int Tryz.underlying2 Tryz.isAgg2
instance : EqF Tryz.prog 3 [.i .i64] 1:=eqf_int Tryz.underlying3 Tryz.isAgg3
instance : EqF Tryz.prog 4 [.b] 1:=eqf_bool Tryz.underlying4 Tryz.isAgg4
instance : EqF Tryz.prog 9 [.s] 1:=eqf_str Tryz.underlying9 Tryz.isAgg9
instance : EqF Tryz.prog 46 [.i .i64,.i .i64,.s] 2:=eqf_struct Tryz.underlying46 (by kernel_rfl) Tryz.isAgg46 Tryz.sizeOf46 rfl (by repeat first|exact FldEq.nil _|refine FldEq.cons3 (by decide) rfl (by decide) (by rfl) ?_)
instance : EqG Tryz.prog 46:=⟨by kernel_rfl⟩
instance : EqF Tryz.prog 48 [.i .i64,.i .i64,.i .i64,.i .i64,.s,.i .i64,.b,.i .i64,.i .i64] 3:=eqf_struct Tryz.underlying48 (by kernel_rfl) Tryz.isAgg48 Tryz.sizeOf48 rfl (by repeat first|exact FldEq.nil _|refine FldEq.cons3 (by decide) rfl (by decide) (by rfl) ?_)
instance : EqG Tryz.prog 48:=⟨by kernel_rfl⟩
instance : EqF Tryz.prog 62 [.i .i64,.i .i64] 2:=eqf_struct Tryz.underlying62 (by kernel_rfl) Tryz.isAgg62 Tryz.sizeOf62 rfl (by repeat first|exact FldEq.nil _|refine FldEq.cons3 (by decide) rfl (by decide) (by rfl) ?_)
instance : EqG Tryz.prog 62:=⟨by kernel_rfl⟩
instance : EqF Tryz.prog 71 [.i .i64,.i .i64,.i .i64,.i .i64,.i .i64,.i .i64,.i .i64,.i .i64,.s,.i .i64,.i .i64,.s] 3:=eqf_struct Tryz.underlying71 (by kernel_rfl) Tryz.isAgg71 Tryz.sizeOf71 rfl (by repeat first|exact FldEq.nil _|refine FldEq.cons3 (by decide) rfl (by decide) (by rfl) ?_)
instance : EqG Tryz.prog 71:=⟨by kernel_rfl⟩
instance : EqF Tryz.prog 80 [.i .i64,.i .i64] 2:=eqf_struct Tryz.underlying80 (by kernel_rfl) Tryz.isAgg80 Tryz.sizeOf80 rfl (by repeat first|exact FldEq.nil _|refine FldEq.cons3 (by decide) rfl (by decide) (by rfl) ?_)
instance : EqG Tryz.prog 80:=⟨by kernel_rfl⟩
instance : EqF Tryz.prog 90 [.i .i64,.i .i64,.i .i64] 2:=eqf_struct Tryz.underlying90 (by kernel_rfl) Tryz.isAgg90 Tryz.sizeOf90 rfl (by repeat first|exact FldEq.nil _|refine FldEq.cons3 (by decide) rfl (by decide) (by rfl) ?_)
instance : EqG Tryz.prog 90:=⟨by kernel_rfl⟩
end Go.Proofs

namespace Go.Proofs
structure Sp where
  f : Int
  t : Int
theorem Sp.ext' {a b : Sp} (h1 : a.f = b.f) (h2 : a.t = b.t) : a = b:=by
  obtain ⟨a,b⟩:=a;simp only at h1 h2;subst h1;subst h2;rfl
def inS (l : List Sp) (x : Int) : Prop:=∃ s,s ∈ l ∧ s.f ≤ x ∧ x < s.t
def neS (l : List Sp) : Prop:=∀ s,s ∈ l → s.f < s.t
def SetP (l : List Sp) : Prop:=neS l ∧ l.Pairwise (fun a b=>a.t < b.f)
theorem inS_nil (x : Int) : ¬ inS [] x:=fun ⟨_,h,_⟩=>by simp at h
theorem inS_cons (s : Sp) (l : List Sp) (x : Int) : inS (s :: l) x ↔ (s.f ≤ x ∧ x < s.t) ∨ inS l x:=by
  constructor
  · rintro ⟨r,hr,h⟩
    rcases List.mem_cons.1 hr with rfl|hr
    · exact .inl h
    · exact .inr ⟨r,hr,h⟩
  · rintro (h | ⟨r,hr,h⟩)
    · exact ⟨s,List.mem_cons_self,h⟩
    · exact ⟨r,List.mem_cons_of_mem _ hr,h⟩
theorem inS_append (a b : List Sp) (x : Int) : inS (a ++ b) x ↔ inS a x ∨ inS b x:=by
  induction a with
  | nil=>simp [inS_nil]
  | cons s a ih=>rw [List.cons_append,inS_cons,inS_cons,ih,or_assoc]
theorem inS_perm {a b : List Sp} (h : a.Perm b) (x : Int) : inS a x ↔ inS b x :=
  ⟨fun ⟨s,hs,e⟩=>⟨s,h.mem_iff.1 hs,e⟩,fun ⟨s,hs,e⟩=>⟨s,h.mem_iff.2 hs,e⟩⟩
theorem SetP.nil : SetP []:=⟨fun _ h=>by simp at h,List.Pairwise.nil⟩
theorem setP_cons {s : Sp} {l : List Sp} : SetP (s :: l) ↔ s.f < s.t ∧ (∀ r,r ∈ l → s.t < r.f) ∧ SetP l:=by
  constructor
  · rintro ⟨h1,h2⟩
    exact ⟨h1 s List.mem_cons_self,(List.pairwise_cons.1 h2).1,fun r hr=>h1 r (List.mem_cons_of_mem _ hr),(List.pairwise_cons.1 h2).2⟩
  · rintro ⟨h1,h2,h3,h4⟩
    refine ⟨fun r hr=>?_,List.pairwise_cons.2 ⟨h2,h4⟩⟩
    rcases List.mem_cons.1 hr with rfl|hr
    · exact h1
    · exact h3 r hr
theorem setP_append {a b : List Sp} (ha : SetP a) (hb : SetP b) (h : ∀ s,s ∈ a → ∀ r,r ∈ b → s.t < r.f) : SetP (a ++ b) :=
  ⟨fun s hs=>by rcases List.mem_append.1 hs with h|h;exact ha.1 s h;exact hb.1 s h,List.pairwise_append.2 ⟨ha.2,hb.2,h⟩⟩
theorem setP_one {s : Sp} (h : s.f < s.t) : SetP [s]:=setP_cons.2 ⟨h,fun _ h=>by simp at h,.nil⟩
theorem set_ext : ∀ {a b : List Sp},SetP a → SetP b → (∀ x,inS a x ↔ inS b x) → a = b
  | [],[],_,_,_=>rfl
  | [],r :: b,_,hb,h=>absurd ((h r.f).2 ((inS_cons _ _ _).2 (.inl ⟨Int.le_refl _,(setP_cons.1 hb).1⟩))) (inS_nil _)
  | s :: a,[],ha,_,h=>absurd ((h s.f).1 ((inS_cons _ _ _).2 (.inl ⟨Int.le_refl _,(setP_cons.1 ha).1⟩))) (inS_nil _)
  | s :: a,r :: b,ha,hb,h=>by
    obtain ⟨a1,a2,a3⟩:=setP_cons.1 ha
    obtain ⟨b1,b2,b3⟩:=setP_cons.1 hb
    have lo1 : r.f ≤ s.f:=by
      rcases (inS_cons _ _ _).1 ((h s.f).1 ((inS_cons _ _ _).2 (.inl ⟨Int.le_refl _,a1⟩))) with e | ⟨u,hu,e⟩
      · exact e.1
      · have:=b2 u hu;omega
    have lo2 : s.f ≤ r.f:=by
      rcases (inS_cons _ _ _).1 ((h r.f).2 ((inS_cons _ _ _).2 (.inl ⟨Int.le_refl _,b1⟩))) with e | ⟨u,hu,e⟩
      · exact e.1
      · have:=a2 u hu;omega
    have hi1 : r.t ≤ s.t:=by
      rcases Int.lt_or_le s.t r.t with g|g
      · rcases (inS_cons _ _ _).1 ((h s.t).2 ((inS_cons _ _ _).2 (.inl ⟨by omega,g⟩))) with e | ⟨u,hu,e⟩
        · omega
        · have:=a2 u hu;omega
      · exact g
    have hi2 : s.t ≤ r.t:=by
      rcases Int.lt_or_le r.t s.t with g|g
      · rcases (inS_cons _ _ _).1 ((h r.t).1 ((inS_cons _ _ _).2 (.inl ⟨by omega,g⟩))) with e | ⟨u,hu,e⟩
        · omega
        · have:=b2 u hu;omega
      · exact g
    have e : s = r:=Sp.ext' (by omega) (by omega)
    subst e
    congr 1
    refine set_ext a3 b3 fun x=>⟨fun hx=>?_,fun hx=>?_⟩
    · rcases (inS_cons _ _ _).1 ((h x).1 ((inS_cons _ _ _).2 (.inr hx))) with e|e
      · obtain ⟨u,hu,e2⟩:=hx;have:=a2 u hu;omega
      · exact e
    · rcases (inS_cons _ _ _).1 ((h x).2 ((inS_cons _ _ _).2 (.inr hx))) with e|e
      · obtain ⟨u,hu,e2⟩:=hx;have:=b2 u hu;omega
      · exact e
theorem set_empty {a : List Sp} (ha : SetP a) (h : ∀ x,¬ inS a x) : a = []:=set_ext ha .nil fun x=>⟨fun e=>absurd e (h x),fun e=>absurd e (inS_nil x)⟩
def SetI (l : List Sp) : Prop:=∀ (i : Nat) (h : i < l.length),l[i].f < l[i].t ∧ ∀ h0 : 0 < i,(l[i - 1]'(by omega)).t < l[i].f
theorem setI_iff (l : List Sp) : SetI l ↔ SetP l:=by
  constructor
  · intro h
    refine ⟨fun s hs=>?_,List.pairwise_iff_getElem.2 ?_⟩
    · obtain ⟨i,hi,rfl⟩:=List.getElem_of_mem hs
      exact (h i hi).1
    · intro i j hi hj hij
      induction j with
      | zero=>omega
      | succ j ih =>
        have h1:=(h (j + 1) hj).2 (by omega)
        simp only [Nat.add_sub_cancel] at h1
        rcases Nat.lt_or_ge i j with g|g
        · have h2:=ih (by omega) g
          have h3:=(h j (by omega)).1
          omega
        · have e : i = j:=by omega
          subst e;exact h1
  · rintro ⟨h1,h2⟩ i hi
    exact ⟨h1 _ (List.getElem_mem _),fun h0=>List.pairwise_iff_getElem.1 h2 (i - 1) i (by omega) hi (by omega)⟩
def jn (out : List Sp) (s : Sp) : List Sp :=
  match out.getLast? with
  | none=>out ++ [s]
  | some p=>if s.f ≤ p.t then out.dropLast ++ [⟨p.f,max p.t s.t⟩] else out ++ [s]
def J (m : List Sp) : List Sp:=m.foldl jn []
theorem jn_nil (s : Sp) : jn [] s = [s]:=rfl
theorem jn_snoc (o : List Sp) (p s : Sp) : jn (o ++ [p]) s = if s.f ≤ p.t then o ++ [⟨p.f,max p.t s.t⟩] else o ++ [p] ++ [s]:=by
  unfold jn;rw [List.getLast?_concat];simp only [List.dropLast_concat]
theorem J_snoc (m : List Sp) (s : Sp) : J (m ++ [s]) = jn (J m) s:=by unfold J;rw [List.foldl_append];rfl
theorem snoc_cases {α : Type} (l : List α) : l = [] ∨ ∃ m x,l = m ++ [x]:=by
  rcases List.eq_nil_or_concat l with h | ⟨m,x,h⟩
  · exact .inl h
  · exact .inr ⟨m,x,by rw [h,List.concat_eq_append]⟩
theorem snoc_ind {α : Type} {p : List α → Prop} (h0 : p []) (h1 : ∀ m x,p m → p (m ++ [x])) : ∀ l,p l:=fun l=>by
  have : ∀ (n : Nat) (l : List α),l.length = n → p l:=fun n=>by
    induction n with
    | zero=>intro l hl;rw [List.length_eq_zero_iff.1 hl];exact h0
    | succ n ih =>
      intro l hl
      rcases snoc_cases l with rfl | ⟨m,x,rfl⟩
      · exact h0
      · exact h1 m x (ih m (by simpa using hl))
  exact this _ l rfl
theorem setP_snoc {o : List Sp} {p : Sp} : SetP (o ++ [p]) ↔ SetP o ∧ p.f < p.t ∧ ∀ s,s ∈ o → s.t < p.f:=by
  constructor
  · rintro ⟨h1,h2⟩
    obtain ⟨g1,g2,g3⟩:=List.pairwise_append.1 h2
    exact ⟨⟨fun s hs=>h1 s (List.mem_append_left _ hs),g1⟩,h1 p (by simp),fun s hs=>g3 s hs p (by simp)⟩
  · rintro ⟨h1,h2,h3⟩
    exact setP_append h1 (setP_one h2) fun s hs r hr=>by rw [List.mem_singleton.1 hr];exact h3 s hs
theorem inS_one (p : Sp) (x : Int) : inS [p] x ↔ p.f ≤ x ∧ x < p.t:=by
  rw [inS_cons];exact ⟨fun h=>by rcases h with h|h;exact h;exact absurd h (inS_nil x),.inl⟩
theorem J_ok : ∀ m : List Sp,neS m → m.Pairwise (fun a b=>a.f ≤ b.f) → SetP (J m) ∧ (∀ x,inS (J m) x ↔ inS m x) ∧ ∀ p,(J m).getLast? = some p → ∃ s,s ∈ m ∧ p.f = s.f:=by
  refine snoc_ind ?_ ?_
  · intro _ _;exact ⟨.nil,fun x=>Iff.rfl,fun p h=>by simp [J] at h⟩
  · intro m s ih hn hp
    obtain ⟨g1,_,g3⟩:=List.pairwise_append.1 hp
    obtain ⟨i1,i2,i3⟩:=ih (fun r hr=>hn r (List.mem_append_left _ hr)) g1
    have hs : s.f < s.t:=hn s (by simp)
    rw [J_snoc]
    rcases snoc_cases (J m) with e | ⟨o,p,e⟩
    · rw [e,jn_nil]
      refine ⟨setP_one hs,fun x=>?_,fun p h=>?_⟩
      · rw [inS_append,← i2 x,e];exact ⟨.inr,fun h=>by rcases h with h|h;exact absurd h (inS_nil x);exact h⟩
      · simp at h;subst h;exact ⟨s,by simp,rfl⟩
    · rw [e] at i1 i2 i3
      obtain ⟨k1,k2,k3⟩:=setP_snoc.1 i1
      obtain ⟨q,hq,hqf⟩:=i3 p (by simp)
      have hle : p.f ≤ s.f:=by rw [hqf];exact g3 q hq s (by simp)
      rw [e,jn_snoc]
      by_cases h : s.f ≤ p.t
      · rw [if_pos h]
        refine ⟨setP_snoc.2 ⟨k1,by show p.f < max p.t s.t;omega,k3⟩,fun x=>?_,fun r hr=>?_⟩
        · rw [inS_append,inS_one,inS_append,inS_one,← i2 x,inS_append,inS_one]
          simp only []
          constructor
          · rintro (h1|h1)
            · exact .inl (.inl h1)
            · by_cases h2 : x < p.t
              · exact .inl (.inr ⟨h1.1,h2⟩)
              · exact .inr (by omega)
          · rintro ((h1|h1)|h1)
            · exact .inl h1
            · exact .inr (by omega)
            · exact .inr (by omega)
        · simp at hr;subst hr;exact ⟨q,List.mem_append_left _ hq,hqf⟩
      · rw [if_neg h]
        refine ⟨setP_snoc.2 ⟨i1,hs,fun r hr=>?_⟩,fun x=>?_,fun r hr=>?_⟩
        · rcases List.mem_append.1 hr with h1|h1
          · have:=k3 r h1;omega
          · rw [List.mem_singleton.1 h1];omega
        · rw [inS_append,inS_append m,← i2 x]
        · simp at hr;subst hr;exact ⟨s,by simp,rfl⟩
def meetL (a b : List Sp) : List Sp :=
  match a,b with
  | s :: a,r :: b=>(if max s.f r.f < min s.t r.t then [⟨max s.f r.f,min s.t r.t⟩] else []) ++ (if s.t < r.t then meetL a (r :: b) else meetL (s :: a) b)
  | [],_=>[]
  | _ :: _,[]=>[]
termination_by a.length + b.length
decreasing_by all_goals (simp;try omega)
theorem meetL_nil (b : List Sp) : meetL [] b = []:=by unfold meetL;rfl
theorem meetL_nil2 (a : List Sp) : meetL a [] = []:=by cases a <;> (unfold meetL;rfl)
theorem meetL_cons (s r : Sp) (a b : List Sp) : meetL (s :: a) (r :: b) = (if max s.f r.f < min s.t r.t then [⟨max s.f r.f,min s.t r.t⟩] else []) ++ (if s.t < r.t then meetL a (r :: b) else meetL (s :: a) b):=by rw [meetL]
theorem meet_of : ∀ (n : Nat) (a b : List Sp),a.length + b.length ≤ n → ∀ u,u ∈ meetL a b → ∃ p,p ∈ a ∧ ∃ q,q ∈ b ∧ u.f = max p.f q.f ∧ u.t = min p.t q.t ∧ u.f < u.t
  | _,[],b,_,u,h=>by rw [meetL_nil] at h;simp at h
  | _,_ :: _,[],_,u,h=>by rw [meetL_nil2] at h;simp at h
  | 0,_ :: _,_ :: _,h,_,_=>by simp at h
  | n + 1,s :: a,r :: b,hn,u,h=>by
    rw [meetL_cons] at h
    simp only [List.length_cons] at hn
    rcases List.mem_append.1 h with h|h
    · split at h
      · rw [List.mem_singleton.1 h];exact ⟨s,List.mem_cons_self,r,List.mem_cons_self,rfl,rfl,by assumption⟩
      · simp at h
    · split at h
      · obtain ⟨p,hp,q,hq,e⟩:=meet_of n a (r :: b) (by simp;omega) u h
        exact ⟨p,List.mem_cons_of_mem _ hp,q,hq,e⟩
      · obtain ⟨p,hp,q,hq,e⟩:=meet_of n (s :: a) b (by simp;omega) u h
        exact ⟨p,hp,q,List.mem_cons_of_mem _ hq,e⟩
theorem meet_ok : ∀ (n : Nat) (a b : List Sp),a.length + b.length ≤ n → SetP a → SetP b → SetP (meetL a b) ∧ ∀ x,inS (meetL a b) x ↔ (inS a x ∧ inS b x)
  | _,[],b,_,_,_=>by rw [meetL_nil];exact ⟨.nil,fun x=>⟨fun h=>absurd h (inS_nil x),fun h=>absurd h.1 (inS_nil x)⟩⟩
  | _,_ :: _,[],_,_,_=>by rw [meetL_nil2];exact ⟨.nil,fun x=>⟨fun h=>absurd h (inS_nil x),fun h=>absurd h.2 (inS_nil x)⟩⟩
  | 0,_ :: _,_ :: _,h,_,_=>by simp at h
  | n + 1,s :: a,r :: b,hn,ha,hb=>by
    simp only [List.length_cons] at hn
    obtain ⟨a1,a2,a3⟩:=setP_cons.1 ha
    obtain ⟨b1,b2,b3⟩:=setP_cons.1 hb
    rw [meetL_cons]
    have hone : SetP (if max s.f r.f < min s.t r.t then [(⟨max s.f r.f,min s.t r.t⟩ : Sp)] else []):=by
      split
      · exact setP_one (by assumption)
      · exact .nil
    have hone2 : ∀ x,inS (if max s.f r.f < min s.t r.t then [(⟨max s.f r.f,min s.t r.t⟩ : Sp)] else []) x ↔ ((s.f ≤ x ∧ x < s.t) ∧ (r.f ≤ x ∧ x < r.t)):=fun x=>by
      split
      · rw [inS_one];simp only [];omega
      · exact ⟨fun h=>absurd h (inS_nil x),fun h=>by omega⟩
    have hb1 : ∀ u,u ∈ (if max s.f r.f < min s.t r.t then [(⟨max s.f r.f,min s.t r.t⟩ : Sp)] else []) → u.t = min s.t r.t:=fun u hu=>by
      split at hu
      · rw [List.mem_singleton.1 hu]
      · simp at hu
    by_cases hc : s.t < r.t
    · rw [if_pos hc]
      obtain ⟨k1,k2⟩:=meet_ok n a (r :: b) (by simp;omega) a3 hb
      refine ⟨setP_append hone k1 fun u hu v hv=>?_,fun x=>?_⟩
      · obtain ⟨p,hp,q,hq,e1,_⟩:=meet_of _ _ _ (Nat.le_refl _) v hv
        have:=a2 p hp;have:=hb1 u hu;omega
      · rw [inS_append,hone2,k2,inS_cons,inS_cons]
        constructor
        · rintro (h|h)
          · exact ⟨.inl h.1,.inl h.2⟩
          · exact ⟨.inr h.1,h.2⟩
        · rintro ⟨h|h,h2⟩
          · rcases h2 with h2 | ⟨v,hv,h2⟩
            · exact .inl ⟨h,h2⟩
            · have:=b2 v hv;omega
          · exact .inr ⟨h,h2⟩
    · rw [if_neg hc]
      obtain ⟨k1,k2⟩:=meet_ok n (s :: a) b (by simp;omega) ha b3
      refine ⟨setP_append hone k1 fun u hu v hv=>?_,fun x=>?_⟩
      · obtain ⟨p,hp,q,hq,e1,_⟩:=meet_of _ _ _ (Nat.le_refl _) v hv
        have:=b2 q hq;have:=hb1 u hu;omega
      · rw [inS_append,hone2,k2,inS_cons,inS_cons]
        constructor
        · rintro (h|h)
          · exact ⟨.inl h.1,.inl h.2⟩
          · exact ⟨h.1,.inr h.2⟩
        · rintro ⟨h,h2|h2⟩
          · rcases h with h | ⟨v,hv,h⟩
            · exact .inl ⟨h,h2⟩
            · have:=a2 v hv;omega
          · exact .inr ⟨h,h2⟩
abbrev loT : Int:=-9223372036854775808
abbrev hiT : Int:=9223372036854775807
def restL (at_ : Int) : List Sp → List Sp
  | []=>if at_ < hiT then [⟨at_,hiT⟩] else []
  | s :: l=>(if at_ < s.f then [⟨at_,s.f⟩] else []) ++ restL s.t l
def rngS (l : List Sp) : Prop:=∀ s,s ∈ l → (loT ≤ s.f ∧ s.f ≤ hiT) ∧ loT ≤ s.t ∧ s.t ≤ hiT
theorem rest_ge : ∀ (l : List Sp) (a : Int),SetP l → (∀ s,s ∈ l → a ≤ s.f) → ∀ u,u ∈ restL a l → a ≤ u.f
  | [],a,_,_,u,h=>by
    unfold restL at h;split at h
    · rw [List.mem_singleton.1 h];exact Int.le_refl _
    · simp at h
  | s :: l,a,hs,hl,u,h=>by
    obtain ⟨h1,h2,h3⟩:=setP_cons.1 hs
    unfold restL at h
    rcases List.mem_append.1 h with h|h
    · split at h
      · rw [List.mem_singleton.1 h];exact Int.le_refl _
      · simp at h
    · have:=rest_ge l s.t h3 (fun r hr=>Int.le_of_lt (h2 r hr)) u h
      have:=hl s List.mem_cons_self
      omega
theorem rest_ok : ∀ (l : List Sp) (a : Int),SetP l → rngS l → (∀ s,s ∈ l → a ≤ s.f) → SetP (restL a l) ∧ ∀ x,inS (restL a l) x ↔ (a ≤ x ∧ x < hiT ∧ ¬ inS l x)
  | [],a,_,_,_=>by
    unfold restL;split
    · exact ⟨setP_one (by assumption),fun x=>by rw [inS_one];exact ⟨fun h=>⟨h.1,h.2,inS_nil x⟩,fun h=>⟨h.1,h.2.1⟩⟩⟩
    · exact ⟨.nil,fun x=>⟨fun h=>absurd h (inS_nil x),fun h=>by omega⟩⟩
  | s :: l, a,hs,hr,hl=>by
    obtain ⟨h1,h2,h3⟩:=setP_cons.1 hs
    have hle:=hl s List.mem_cons_self
    have hrs:=hr s List.mem_cons_self
    obtain ⟨k1,k2⟩:=rest_ok l s.t h3 (fun r e=>hr r (List.mem_cons_of_mem _ e)) (fun r e=>Int.le_of_lt (h2 r e))
    have k3:=rest_ge l s.t h3 (fun r e=>Int.le_of_lt (h2 r e))
    unfold restL
    constructor
    · refine setP_append (by split;exact setP_one (by assumption);exact .nil) k1 fun u hu v hv=>?_
      have:=k3 v hv
      split at hu
      · rw [List.mem_singleton.1 hu];simp only [];omega
      · simp at hu
    · intro x
      rw [inS_append,k2,inS_cons]
      have e1 : inS (if a < s.f then [(⟨a,s.f⟩ : Sp)] else []) x ↔ (a ≤ x ∧ x < s.f):=by
        split
        · rw [inS_one]
        · exact ⟨fun h=>absurd h (inS_nil x),fun h=>by omega⟩
      rw [e1]
      constructor
      · rintro (h|h)
        · refine ⟨h.1,by omega,?_⟩
          rintro (g | ⟨u,hu,g⟩)
          · omega
          · have:=h2 u hu;omega
        · refine ⟨by omega,h.2.1,?_⟩
          rintro (g|g)
          · omega
          · exact h.2.2 g
      · rintro ⟨g1,g2,g3⟩
        by_cases h : x < s.f
        · exact .inl ⟨g1,h⟩
        · have : s.t ≤ x:=by
            rcases Int.lt_or_le x s.t with e|e
            · exact absurd (.inl ⟨by omega,e⟩) g3
            · exact e
          exact .inr ⟨this,g2,fun e=>g3 (.inr e)⟩
end Go.Proofs

namespace Go.Proofs
end Go.Proofs

namespace Go.Proofs
open Go.AL Go.Sort
structure WC {α : Type} (c : α → α → Int) : Prop where
  anti : ∀ x y,c x y < 0 ↔ 0 < c y x
  le : ∀ x y z,c x y ≤ 0 → c y z ≤ 0 → c x z ≤ 0
theorem WC.refl {α : Type} {c : α → α → Int} (h : WC c) (x : α) : c x x = 0:=by have:=h.anti x x;omega
theorem WC.sym {α : Type} {c : α → α → Int} (h : WC c) {x y : α} (e : c x y = 0) : c y x = 0:=by have h1:=h.anti x y;have h2:=h.anti y x;omega
theorem WC.lt {α : Type} {c : α → α → Int} (h : WC c) {x y z : α} (h1 : c x y ≤ 0) (h2 : c y z ≤ 0) (h3 : c x y < 0 ∨ c y z < 0) : c x z < 0:=by
  have h4:=h.le x y z h1 h2
  rcases Int.lt_or_eq_of_le h4 with h5|h5
  · exact h5
  · exfalso
    have h6:=h.sym h5
    rcases h3 with h3|h3
    · have:=h.le y z x h2 (by omega)
      have:=(h.anti x y).1 h3;omega
    · have:=h.le z x y (by omega) h1
      have:=(h.anti y z).1 h3;omega
theorem WC.comap {α β : Type} {c : α → α → Int} (h : WC c) (f : β → α) : WC (fun x y=>c (f x) (f y)):=⟨fun _ _=>h.anti _ _,fun _ _ _=>h.le _ _ _⟩
theorem WC.lex {α : Type} {c d : α → α → Int} (h : WC c) (h' : WC d) : WC (fun x y=>if c x y = 0 then d x y else c x y):=by
  refine ⟨fun x y=>?_,fun x y z h1 h2=>?_⟩
  · have a1:=h.anti x y
    have a2:=h.anti y x
    have b1:=h'.anti x y
    by_cases e : c x y = 0
    · rw [if_pos e,if_pos (h.sym e)];exact b1
    · rw [if_neg e,if_neg (fun e'=>e (h.sym e'))];exact a1
  · by_cases e1 : c x y = 0
    · rw [if_pos e1] at h1
      by_cases e2 : c y z = 0
      · rw [if_pos e2] at h2
        have e3 : c x z = 0:=by
          have l1:=h.le x y z (by omega) (by omega)
          have l2:=h.le z y x (by have:=h.sym e2;omega) (by have:=h.sym e1;omega)
          have:=h.anti x z
          omega
        rw [if_pos e3];exact h'.le x y z h1 h2
      · rw [if_neg e2] at h2
        have:=h.lt (x:=x) (y:=y) (z:=z) (by omega) h2 (.inr (by omega))
        rw [if_neg (by omega)];omega
    · rw [if_neg e1] at h1
      have h3 : c y z ≤ 0:=by
        by_cases e2 : c y z = 0
        · omega
        · rw [if_neg e2] at h2;exact h2
      have:=h.lt (x:=x) (y:=y) (z:=z) h1 h3 (.inl (by omega))
      rw [if_neg (by omega)];omega
theorem WC.swo {α : Type} {c : α → α → Int} (h : WC c) : SWO (ltOf c):=by
  have e : ∀ x y,ltOf c x y = true ↔ c x y < 0:=fun x y=>by simp [ltOf]
  have e' : ∀ x y,ltOf c x y = false ↔ ¬ c x y < 0:=fun x y=>by simp [ltOf]
  refine ⟨fun x=>?_,fun x y z h1 h2=>?_,fun x y z h1 h2=>?_⟩
  · rw [e',h.refl];omega
  · rw [e] at *
    exact h.lt (by omega) (by omega) (.inl h1)
  · rw [e'] at *
    have a1:=h.anti x y
    have a2:=h.anti y x
    have a3:=h.anti y z
    have a4:=h.anti z y
    have a5:=h.anti x z
    have:=h.le z y x (by omega) (by omega)
    omega
theorem ltOf_tot {α : Type} {c : α → α → Int} (h : WC c) (hz : ∀ x y,c x y = 0 → x = y) : ∀ x y,ltOf c x y = false → ltOf c y x = false → x = y:=fun x y h1 h2=>by
  have e' : ∀ x y,ltOf c x y = false ↔ ¬ c x y < 0:=fun x y=>by simp [ltOf]
  rw [e'] at h1 h2
  have:=h.anti y x
  exact hz x y (by omega)
def Rise {α : Type} (c : α → α → Int) (l : List α) : Prop:=l.Pairwise fun x y=>c x y < 0
theorem rise_eq {α : Type} {c : α → α → Int} (h : WC c) : ∀ {a b : List α},Rise c a → Rise c b → (∀ x,x ∈ a ↔ x ∈ b) → a = b
  | [],[],_,_,_=>rfl
  | [],y :: b,_,_,hm=>by have:=(hm y).2 (.head _);cases this
  | x :: a,[],_,_,hm=>by have:=(hm x).1 (.head _);cases this
  | x :: a,y :: b,ha,hb,hm=>by
    unfold Rise at ha hb
    rw [List.pairwise_cons] at ha hb
    have e : x = y:=by
      have h1:=(hm x).1 (.head _)
      have h2:=(hm y).2 (.head _)
      simp only [List.mem_cons] at h1 h2
      rcases h1 with h1|h1
      · exact h1
      · rcases h2 with h2|h2
        · exact h2.symm
        · have l1:=ha.1 y h2
          have l2:=hb.1 x h1
          have:=(h.anti x y).1 l1
          omega
    subst e
    congr 1
    refine rise_eq h ha.2 hb.2 fun z=>?_
    have hz:=hm z
    simp only [List.mem_cons] at hz
    constructor
    · intro hz'
      rcases hz.1 (.inr hz') with e|e
      · subst e;have:=ha.1 z hz';rw [h.refl] at this;omega
      · exact e
    · intro hz'
      rcases hz.2 (.inr hz') with e|e
      · subst e;have:=hb.1 z hz';rw [h.refl] at this;omega
      · exact e
open Classical in
noncomputable def compL {α : Type} : List α → List α
  | []=>[]
  | [x]=>[x]
  | x :: y :: t=>if x = y then compL (y :: t) else x :: compL (y :: t)
open Classical in
theorem compL_snoc {α : Type} : ∀ (t : List α) (y x : α),compL (t ++ [y] ++ [x]) = compL (t ++ [y]) ++ (if y = x then [] else [x])
  | [],y,x=>by
    simp only [List.nil_append,List.cons_append,compL]
    by_cases h : y = x
    · simp [h]
    · simp [h]
  | [z],y,x=>by
    simp only [List.nil_append,List.cons_append,compL]
    by_cases h : y = x <;> by_cases h' : z = y <;> simp [h,h']
  | z :: w :: t,y,x=>by
    have ih:=compL_snoc (w :: t) y x
    simp only [List.cons_append] at ih ⊢
    simp only [compL]
    rw [ih]
    split <;> simp
theorem compL_mem {α : Type} : ∀ (l : List α) (x : α),x ∈ compL l ↔ x ∈ l
  | [],x=>by simp [compL]
  | [y],x=>by simp [compL]
  | y :: z :: t,x=>by
    have ih:=compL_mem (z :: t) x
    simp only [compL]
    split
    · rename_i h;subst h;rw [ih];simp
    · rw [List.mem_cons,ih,List.mem_cons (a:=x) (b:=y)]
theorem compL_rise {α : Type} {c : α → α → Int} (h : WC c) (hz : ∀ x y,c x y = 0 → x = y) : ∀ {l : List α},l.Pairwise (fun x y=>c x y ≤ 0) → Rise c (compL l)
  | [],_=>List.Pairwise.nil
  | [x],_=>List.pairwise_singleton _ _
  | x :: y :: t,hp=>by
    rw [List.pairwise_cons] at hp
    have ih:=compL_rise h hz hp.2
    simp only [compL]
    split
    · exact ih
    · rename_i hne
      refine List.pairwise_cons.2 ⟨fun z hzm=>?_,ih⟩
      have hzm':=(compL_mem (y :: t) z).1 hzm
      have hxy : c x y < 0:=by
        have:=hp.1 y (.head _)
        rcases Int.lt_or_eq_of_le this with h5|h5
        · exact h5
        · exact absurd (hz x y h5) hne
      simp only [List.mem_cons] at hzm'
      rcases hzm' with e|e
      · subst e;exact hxy
      · exact h.lt (by omega) ((List.pairwise_cons.1 hp.2).1 z e) (.inl hxy)
open Classical in
theorem compL_take {α : Type} (l : List α) (m : Nat) (h : m + 1 < l.length) : compL (l.take (m + 2)) = compL (l.take (m + 1)) ++ (if l[m] = l[m + 1] then [] else [l[m + 1]]):=by
  have e1 : l.take (m + 1) = l.take m ++ [l[m]]:=List.take_succ_eq_append_getElem (by omega)
  have e2 : l.take (m + 2) = l.take m ++ [l[m]] ++ [l[m + 1]]:=by rw [List.take_succ_eq_append_getElem h,e1]
  rw [e2,e1,compL_snoc]
noncomputable def sortC {α : Type} (c : α → α → Int) (l : List α) : List α:=compL (l.mergeSort fun x y=>!(ltOf c y x))
theorem sortC_mem {α : Type} (c : α → α → Int) (l : List α) (x : α) : x ∈ sortC c l ↔ x ∈ l:=by
  unfold sortC;rw [compL_mem,List.mem_mergeSort]
theorem sortC_rise {α : Type} {c : α → α → Int} (h : WC c) (hz : ∀ x y,c x y = 0 → x = y) (l : List α) : Rise c (sortC c l):=by
  refine compL_rise h hz ?_
  have e : ∀ x y,(!(ltOf c y x)) = true ↔ c x y ≤ 0:=fun x y=>by
    have:=h.anti y x
    have:=h.anti x y
    simp [ltOf];omega
  have:=List.pairwise_mergeSort (le:=fun x y=>!(ltOf c y x)) (fun a b d h1 h2=>by rw [e] at *;exact h.le _ _ _ h1 h2) (fun a b=>by
    have:=h.anti a b
    have:=h.anti b a
    rw [Bool.or_eq_true,e,e];omega) l
  exact this.imp fun {a b} hab=>(e a b).1 hab
theorem compL_len {α : Type} : ∀ (l : List α),(compL l).length ≤ l.length
  | []=>by simp [compL]
  | [x]=>by simp [compL]
  | x :: y :: t=>by
    have:=compL_len (y :: t)
    simp only [compL];split <;> simp at * <;> omega
theorem sortC_len {α : Type} (c : α → α → Int) (l : List α) : (sortC c l).length ≤ l.length:=by
  have:=compL_len (l.mergeSort fun x y=>!(ltOf c y x))
  rw [List.length_mergeSort] at this;exact this
theorem sortC_eq {α : Type} {c : α → α → Int} (h : WC c) (hz : ∀ x y,c x y = 0 → x = y) {l m : List α} (hr : Rise c m) (hm : ∀ x,x ∈ m ↔ x ∈ l) : m = sortC c l :=
  rise_eq h hr (sortC_rise h hz l) fun x=>by rw [hm,sortC_mem]
def insC {α : Type} (c : α → α → Int) (x : α) : List α → List α
  | []=>[x]
  | y :: t=>if c y x < 0 then y :: insC c x t else if c y x = 0 then y :: t else x :: y :: t
theorem insC_mem {α : Type} {c : α → α → Int} (hz : ∀ x y,c x y = 0 → x = y) (x : α) : ∀ (l : List α) (z : α),z ∈ insC c x l ↔ z = x ∨ z ∈ l
  | [],z=>by simp [insC]
  | y :: t,z=>by
    have ih:=insC_mem hz x t z
    simp only [insC]
    split
    · rw [List.mem_cons,ih,List.mem_cons]
      constructor
      · rintro (h|h|h)
        · exact .inr (.inl h)
        · exact .inl h
        · exact .inr (.inr h)
      · rintro (h|h|h)
        · exact .inr (.inl h)
        · exact .inl h
        · exact .inr (.inr h)
    · split
      · rename_i h;have:=hz y x h;subst this;simp
      · simp
theorem insC_rise {α : Type} {c : α → α → Int} (h : WC c) (hz : ∀ x y,c x y = 0 → x = y) (x : α) : ∀ {l : List α},Rise c l → Rise c (insC c x l)
  | [],_=>List.pairwise_singleton _ _
  | y :: t,hr=>by
    unfold Rise at *
    have hr':=List.pairwise_cons.1 hr
    simp only [insC]
    split
    · rename_i hlt
      refine List.pairwise_cons.2 ⟨fun z hzm=>?_,insC_rise h hz x hr'.2⟩
      rcases (insC_mem hz x t z).1 hzm with e|e
      · subst e;exact hlt
      · exact hr'.1 z e
    · rename_i h1
      split
      · exact hr
      · rename_i h2
        have hxy : c x y < 0:=(h.anti x y).2 (by omega)
        refine List.pairwise_cons.2 ⟨fun z hzm=>?_,hr⟩
        simp only [List.mem_cons] at hzm
        rcases hzm with e|e
        · subst e;exact hxy
        · have:=hr'.1 z e
          exact h.lt (by omega) (by omega) (.inl hxy)
theorem insC_len {α : Type} (c : α → α → Int) (x : α) : ∀ l : List α,(insC c x l).length ≤ l.length + 1
  | []=>by simp [insC]
  | y :: t=>by
    have:=insC_len c x t
    simp only [insC];split
    · simp;omega
    · split <;> simp
def insL {α : Type} (c : α → α → Int) (l : List α) : List α:=l.foldl (fun out x=>insC c x out) []
theorem insL_snoc {α : Type} (c : α → α → Int) (l : List α) (i : Nat) (h : i < l.length) : insL c (l.take (i + 1)) = insC c l[i] (insL c (l.take i)):=by
  unfold insL
  rw [List.take_succ_eq_append_getElem h,List.foldl_append];rfl
theorem insL_len {α : Type} (c : α → α → Int) (l : List α) (i : Nat) (h : i ≤ l.length) : (insL c (l.take i)).length ≤ i:=by
  induction i with
  | zero=>simp [insL]
  | succ i ih =>
    rw [insL_snoc c l i (by omega)]
    have:=insC_len c l[i] (insL c (l.take i))
    have:=ih (by omega)
    omega
theorem fold_sortC {α : Type} {c : α → α → Int} (h : WC c) (hz : ∀ x y,c x y = 0 → x = y) (l : List α) : l.foldl (fun out x=>insC c x out) [] = sortC c l:=by
  have key : ∀ (l out : List α),Rise c out → Rise c (l.foldl (fun out x=>insC c x out) out) ∧ ∀ z,z ∈ l.foldl (fun out x=>insC c x out) out ↔ z ∈ out ∨ z ∈ l:=by
    intro l
    induction l with
    | nil=>exact fun out hr=>⟨hr,fun z=>by simp⟩
    | cons x l ih =>
      intro out hr
      obtain ⟨h1,h2⟩:=ih (insC c x out) (insC_rise h hz x hr)
      refine ⟨h1,fun z=>?_⟩
      rw [List.foldl_cons,h2,insC_mem hz,List.mem_cons]
      constructor
      · rintro ((e|e)|e)
        · exact .inr (.inl e)
        · exact .inl e
        · exact .inr (.inr e)
      · rintro (e|e|e)
        · exact .inl (.inr e)
        · exact .inl (.inl e)
        · exact .inr e
  obtain ⟨h1,h2⟩:=key l [] List.Pairwise.nil
  exact sortC_eq h hz h1 fun z=>by rw [h2];simp
end Go.Proofs
