/- The facts on a seat's types, as instances of the abstract logic's classes. No condition. -/
import Derived.Test.YtnjnjbombcefcaaOps4
import Derived.Test.YtnjnjbombcefcaaProg
namespace Go.Proofs
open Go.AL
instance : Siz Try.prog 0 1 := ⟨Try.sizeOf0⟩
instance : Siz Try.prog 1 1 := ⟨Try.sizeOf1⟩
instance : Agg Try.prog 1 false := ⟨Try.isAgg1⟩
instance : Zer Try.prog 1 (.nilFunc) := ⟨Try.zeroValue1⟩
instance : Und Try.prog 2 (.int .i64) := ⟨Try.underlying2⟩
instance : Siz Try.prog 2 1 := ⟨Try.sizeOf2⟩
instance : Agg Try.prog 2 false := ⟨Try.isAgg2⟩
instance : Zer Try.prog 2 (.int .i64 0) := ⟨Try.zeroValue2⟩
instance : Und Try.prog 3 (.int .i64) := ⟨Try.underlying3⟩
instance : Siz Try.prog 3 1 := ⟨Try.sizeOf3⟩
instance : Agg Try.prog 3 false := ⟨Try.isAgg3⟩
instance : Zer Try.prog 3 (.int .i64 0) := ⟨Try.zeroValue3⟩
instance : Und Try.prog 4 .bool := ⟨Try.underlying4⟩
instance : Siz Try.prog 4 1 := ⟨Try.sizeOf4⟩
instance : Agg Try.prog 4 false := ⟨Try.isAgg4⟩
instance : Zer Try.prog 4 (.bool false) := ⟨Try.zeroValue4⟩
instance : Und Try.prog 5 (.int .u8) := ⟨Try.underlying5⟩
instance : Siz Try.prog 5 1 := ⟨Try.sizeOf5⟩
instance : Agg Try.prog 5 false := ⟨Try.isAgg5⟩
instance : Zer Try.prog 5 (.int .u8 0) := ⟨Try.zeroValue5⟩
instance : Und Try.prog 6 (.int .u8) := ⟨Try.underlying6⟩
instance : Siz Try.prog 6 1 := ⟨Try.sizeOf6⟩
instance : Agg Try.prog 6 false := ⟨Try.isAgg6⟩
instance : Zer Try.prog 6 (.int .u8 0) := ⟨Try.zeroValue6⟩
instance : Siz Try.prog 7 4 := ⟨Try.sizeOf7⟩
instance : Agg Try.prog 7 true := ⟨Try.isAgg7⟩
instance : Zer Try.prog 7 (.agg #[.int .i64 0, .int .i64 0, .bool false, .int .u8 0]) := ⟨Try.zeroValue7⟩
instance : Fld Try.prog 7 0 0 := ⟨fun w a => by simp [Instr.fieldAt, Instr.sureAddr, fieldPlace, Try.runUnderlying7, Try.sizeOf2]⟩
instance : Fld Try.prog 7 1 1 := ⟨fun w a => by simp [Instr.fieldAt, Instr.sureAddr, fieldPlace, Try.runUnderlying7, Try.sizeOf3]⟩
instance : Fld Try.prog 7 2 2 := ⟨fun w a => by simp [Instr.fieldAt, Instr.sureAddr, fieldPlace, Try.runUnderlying7, Try.sizeOf4]⟩
instance : Fld Try.prog 7 3 3 := ⟨fun w a => by simp [Instr.fieldAt, Instr.sureAddr, fieldPlace, Try.runUnderlying7, Try.sizeOf6]⟩
instance : Siz Try.prog 8 4 := ⟨Try.sizeOf8⟩
instance : Agg Try.prog 8 true := ⟨Try.isAgg8⟩
instance : Zer Try.prog 8 (.agg #[.int .i64 0, .int .i64 0, .bool false, .int .u8 0]) := ⟨Try.zeroValue8⟩
instance : Fld Try.prog 8 0 0 := ⟨fun w a => by simp [Instr.fieldAt, Instr.sureAddr, fieldPlace, Try.runUnderlying8, Try.sizeOf2]⟩
instance : Fld Try.prog 8 1 1 := ⟨fun w a => by simp [Instr.fieldAt, Instr.sureAddr, fieldPlace, Try.runUnderlying8, Try.sizeOf3]⟩
instance : Fld Try.prog 8 2 2 := ⟨fun w a => by simp [Instr.fieldAt, Instr.sureAddr, fieldPlace, Try.runUnderlying8, Try.sizeOf4]⟩
instance : Fld Try.prog 8 3 3 := ⟨fun w a => by simp [Instr.fieldAt, Instr.sureAddr, fieldPlace, Try.runUnderlying8, Try.sizeOf6]⟩
instance : Und Try.prog 9 .string := ⟨Try.underlying9⟩
instance : Siz Try.prog 9 1 := ⟨Try.sizeOf9⟩
instance : Agg Try.prog 9 false := ⟨Try.isAgg9⟩
instance : Zer Try.prog 9 (.string ⟨#[]⟩) := ⟨Try.zeroValue9⟩
instance : Und Try.prog 10 .string := ⟨Try.underlying10⟩
instance : Siz Try.prog 10 1 := ⟨Try.sizeOf10⟩
instance : Agg Try.prog 10 false := ⟨Try.isAgg10⟩
instance : Zer Try.prog 10 (.string ⟨#[]⟩) := ⟨Try.zeroValue10⟩
instance : Und Try.prog 11 .string := ⟨Try.underlying11⟩
instance : Siz Try.prog 11 1 := ⟨Try.sizeOf11⟩
instance : Agg Try.prog 11 false := ⟨Try.isAgg11⟩
instance : Zer Try.prog 11 (.string ⟨#[]⟩) := ⟨Try.zeroValue11⟩
instance : Und Try.prog 12 (.int .u64) := ⟨Try.underlying12⟩
instance : Siz Try.prog 12 1 := ⟨Try.sizeOf12⟩
instance : Agg Try.prog 12 false := ⟨Try.isAgg12⟩
instance : Zer Try.prog 12 (.int .u64 0) := ⟨Try.zeroValue12⟩
instance : Siz Try.prog 13 2 := ⟨Try.sizeOf13⟩
instance : Agg Try.prog 13 true := ⟨Try.isAgg13⟩
instance : Zer Try.prog 13 (.agg #[.string ⟨#[]⟩, .int .u64 0]) := ⟨Try.zeroValue13⟩
instance : Fld Try.prog 13 0 0 := ⟨fun w a => by simp [Instr.fieldAt, Instr.sureAddr, fieldPlace, Try.runUnderlying13, Try.sizeOf9]⟩
instance : Fld Try.prog 13 1 1 := ⟨fun w a => by simp [Instr.fieldAt, Instr.sureAddr, fieldPlace, Try.runUnderlying13, Try.sizeOf12]⟩
instance : Siz Try.prog 14 2 := ⟨Try.sizeOf14⟩
instance : Agg Try.prog 14 true := ⟨Try.isAgg14⟩
instance : Zer Try.prog 14 (.agg #[.string ⟨#[]⟩, .int .u64 0]) := ⟨Try.zeroValue14⟩
instance : Fld Try.prog 14 0 0 := ⟨fun w a => by simp [Instr.fieldAt, Instr.sureAddr, fieldPlace, Try.runUnderlying14, Try.sizeOf9]⟩
instance : Fld Try.prog 14 1 1 := ⟨fun w a => by simp [Instr.fieldAt, Instr.sureAddr, fieldPlace, Try.runUnderlying14, Try.sizeOf12]⟩
instance : Und Try.prog 15 (.pointer 28) := ⟨Try.underlying15⟩
instance : Siz Try.prog 15 1 := ⟨Try.sizeOf15⟩
instance : Agg Try.prog 15 false := ⟨Try.isAgg15⟩
instance : Zer Try.prog 15 (.pointer none) := ⟨Try.zeroValue15⟩
instance : Und Try.prog 16 (.pointer 31) := ⟨Try.underlying16⟩
instance : Siz Try.prog 16 1 := ⟨Try.sizeOf16⟩
instance : Agg Try.prog 16 false := ⟨Try.isAgg16⟩
instance : Zer Try.prog 16 (.pointer none) := ⟨Try.zeroValue16⟩
instance : Und Try.prog 17 (.pointer 41) := ⟨Try.underlying17⟩
instance : Siz Try.prog 17 1 := ⟨Try.sizeOf17⟩
instance : Agg Try.prog 17 false := ⟨Try.isAgg17⟩
instance : Zer Try.prog 17 (.pointer none) := ⟨Try.zeroValue17⟩
instance : Siz Try.prog 18 1 := ⟨Try.sizeOf18⟩
instance : Agg Try.prog 18 true := ⟨Try.isAgg18⟩
instance : Zer Try.prog 18 (.agg #[.pointer none]) := ⟨Try.zeroValue18⟩
instance : Fld Try.prog 18 0 0 := ⟨fun w a => by simp [Instr.fieldAt, Instr.sureAddr, fieldPlace, Try.runUnderlying18, Try.sizeOf17]⟩
instance : Siz Try.prog 19 1 := ⟨Try.sizeOf19⟩
instance : Agg Try.prog 19 true := ⟨Try.isAgg19⟩
instance : Zer Try.prog 19 (.agg #[.pointer none]) := ⟨Try.zeroValue19⟩
instance : Fld Try.prog 19 0 0 := ⟨fun w a => by simp [Instr.fieldAt, Instr.sureAddr, fieldPlace, Try.runUnderlying19, Try.sizeOf17]⟩
instance : Siz Try.prog 20 1 := ⟨Try.sizeOf20⟩
instance : Agg Try.prog 20 false := ⟨Try.isAgg20⟩
instance : Zer Try.prog 20 (.nilIface) := ⟨Try.zeroValue20⟩
instance : Und Try.prog 21 (.int .i32) := ⟨Try.underlying21⟩
instance : Siz Try.prog 21 1 := ⟨Try.sizeOf21⟩
instance : Agg Try.prog 21 false := ⟨Try.isAgg21⟩
instance : Zer Try.prog 21 (.int .i32 0) := ⟨Try.zeroValue21⟩
instance : Siz Try.prog 22 1 := ⟨Try.sizeOf22⟩
instance : Agg Try.prog 22 false := ⟨Try.isAgg22⟩
instance : Zer Try.prog 22 (.nilFunc) := ⟨Try.zeroValue22⟩
instance : Siz Try.prog 23 1 := ⟨Try.sizeOf23⟩
instance : Agg Try.prog 23 false := ⟨Try.isAgg23⟩
instance : Zer Try.prog 23 (.nilFunc) := ⟨Try.zeroValue23⟩
instance : Siz Try.prog 24 1 := ⟨Try.sizeOf24⟩
instance : Agg Try.prog 24 false := ⟨Try.isAgg24⟩
instance : Zer Try.prog 24 (.nilFunc) := ⟨Try.zeroValue24⟩
instance : Siz Try.prog 25 1 := ⟨Try.sizeOf25⟩
instance : Agg Try.prog 25 false := ⟨Try.isAgg25⟩
instance : Zer Try.prog 25 (.nilFunc) := ⟨Try.zeroValue25⟩
instance : Siz Try.prog 26 1 := ⟨Try.sizeOf26⟩
instance : Agg Try.prog 26 false := ⟨Try.isAgg26⟩
instance : Zer Try.prog 26 (.nilFunc) := ⟨Try.zeroValue26⟩
instance : Siz Try.prog 27 4 := ⟨Try.sizeOf27⟩
instance : Agg Try.prog 27 true := ⟨Try.isAgg27⟩
instance : Zer Try.prog 27 (.agg #[.pointer none, .pointer none, .pointer none, .string ⟨#[]⟩]) := ⟨Try.zeroValue27⟩
instance : Fld Try.prog 27 0 0 := ⟨fun w a => by simp [Instr.fieldAt, Instr.sureAddr, fieldPlace, Try.runUnderlying27, Try.sizeOf17]⟩
instance : Fld Try.prog 27 1 1 := ⟨fun w a => by simp [Instr.fieldAt, Instr.sureAddr, fieldPlace, Try.runUnderlying27, Try.sizeOf17]⟩
instance : Fld Try.prog 27 2 2 := ⟨fun w a => by simp [Instr.fieldAt, Instr.sureAddr, fieldPlace, Try.runUnderlying27, Try.sizeOf17]⟩
instance : Fld Try.prog 27 3 3 := ⟨fun w a => by simp [Instr.fieldAt, Instr.sureAddr, fieldPlace, Try.runUnderlying27, Try.sizeOf9]⟩
instance : Siz Try.prog 28 4 := ⟨Try.sizeOf28⟩
instance : Agg Try.prog 28 true := ⟨Try.isAgg28⟩
instance : Zer Try.prog 28 (.agg #[.pointer none, .pointer none, .pointer none, .string ⟨#[]⟩]) := ⟨Try.zeroValue28⟩
instance : Fld Try.prog 28 0 0 := ⟨fun w a => by simp [Instr.fieldAt, Instr.sureAddr, fieldPlace, Try.runUnderlying28, Try.sizeOf17]⟩
instance : Fld Try.prog 28 1 1 := ⟨fun w a => by simp [Instr.fieldAt, Instr.sureAddr, fieldPlace, Try.runUnderlying28, Try.sizeOf17]⟩
instance : Fld Try.prog 28 2 2 := ⟨fun w a => by simp [Instr.fieldAt, Instr.sureAddr, fieldPlace, Try.runUnderlying28, Try.sizeOf17]⟩
instance : Fld Try.prog 28 3 3 := ⟨fun w a => by simp [Instr.fieldAt, Instr.sureAddr, fieldPlace, Try.runUnderlying28, Try.sizeOf9]⟩
instance : Und Try.prog 29 (.array 0 16) := ⟨Try.underlying29⟩
instance : Siz Try.prog 29 0 := ⟨Try.sizeOf29⟩
instance : Agg Try.prog 29 true := ⟨Try.isAgg29⟩
instance : Zer Try.prog 29 (.agg #[]) := ⟨Try.zeroValue29⟩
instance : Siz Try.prog 30 0 := ⟨Try.sizeOf30⟩
instance : Agg Try.prog 30 true := ⟨Try.isAgg30⟩
instance : Zer Try.prog 30 (.agg #[]) := ⟨Try.zeroValue30⟩
instance : Siz Try.prog 31 0 := ⟨Try.sizeOf31⟩
instance : Agg Try.prog 31 true := ⟨Try.isAgg31⟩
instance : Zer Try.prog 31 (.agg #[]) := ⟨Try.zeroValue31⟩
instance : Siz Try.prog 32 1 := ⟨Try.sizeOf32⟩
instance : Agg Try.prog 32 false := ⟨Try.isAgg32⟩
instance : Zer Try.prog 32 (.nilFunc) := ⟨Try.zeroValue32⟩
instance : Und Try.prog 33 (.int .u32) := ⟨Try.underlying33⟩
instance : Siz Try.prog 33 1 := ⟨Try.sizeOf33⟩
instance : Agg Try.prog 33 false := ⟨Try.isAgg33⟩
instance : Zer Try.prog 33 (.int .u32 0) := ⟨Try.zeroValue33⟩
instance : Und Try.prog 34 (.int .u8) := ⟨Try.underlying34⟩
instance : Siz Try.prog 34 1 := ⟨Try.sizeOf34⟩
instance : Agg Try.prog 34 false := ⟨Try.isAgg34⟩
instance : Zer Try.prog 34 (.int .u8 0) := ⟨Try.zeroValue34⟩
instance : Und Try.prog 35 (.int .u8) := ⟨Try.underlying35⟩
instance : Siz Try.prog 35 1 := ⟨Try.sizeOf35⟩
instance : Agg Try.prog 35 false := ⟨Try.isAgg35⟩
instance : Zer Try.prog 35 (.int .u8 0) := ⟨Try.zeroValue35⟩
instance : Siz Try.prog 36 1 := ⟨Try.sizeOf36⟩
instance : Agg Try.prog 36 false := ⟨Try.isAgg36⟩
instance : Zer Try.prog 36 (.nilFunc) := ⟨Try.zeroValue36⟩
instance : Und Try.prog 37 (.pointer 5) := ⟨Try.underlying37⟩
instance : Siz Try.prog 37 1 := ⟨Try.sizeOf37⟩
instance : Agg Try.prog 37 false := ⟨Try.isAgg37⟩
instance : Zer Try.prog 37 (.pointer none) := ⟨Try.zeroValue37⟩
instance : Und Try.prog 38 (.int .i32) := ⟨Try.underlying38⟩
instance : Siz Try.prog 38 1 := ⟨Try.sizeOf38⟩
instance : Agg Try.prog 38 false := ⟨Try.isAgg38⟩
instance : Zer Try.prog 38 (.int .i32 0) := ⟨Try.zeroValue38⟩
instance : Und Try.prog 39 (.int .i32) := ⟨Try.underlying39⟩
instance : Siz Try.prog 39 1 := ⟨Try.sizeOf39⟩
instance : Agg Try.prog 39 false := ⟨Try.isAgg39⟩
instance : Zer Try.prog 39 (.int .i32 0) := ⟨Try.zeroValue39⟩
instance : Siz Try.prog 40 11 := ⟨Try.sizeOf40⟩
instance : Agg Try.prog 40 true := ⟨Try.isAgg40⟩
instance : Zer Try.prog 40 (.agg #[.int .u64 0, .int .u64 0, .int .u32 0, .int .u8 0, .int .u8 0, .int .u8 0, .int .u8 0, .nilFunc, .pointer none, .int .i32 0, .int .i32 0]) := ⟨Try.zeroValue40⟩
instance : Fld Try.prog 40 0 0 := ⟨fun w a => by simp [Instr.fieldAt, Instr.sureAddr, fieldPlace, Try.runUnderlying40, Try.sizeOf12]⟩
instance : Fld Try.prog 40 1 1 := ⟨fun w a => by simp [Instr.fieldAt, Instr.sureAddr, fieldPlace, Try.runUnderlying40, Try.sizeOf12]⟩
instance : Fld Try.prog 40 2 2 := ⟨fun w a => by simp [Instr.fieldAt, Instr.sureAddr, fieldPlace, Try.runUnderlying40, Try.sizeOf33]⟩
instance : Fld Try.prog 40 3 3 := ⟨fun w a => by simp [Instr.fieldAt, Instr.sureAddr, fieldPlace, Try.runUnderlying40, Try.sizeOf34]⟩
instance : Fld Try.prog 40 4 4 := ⟨fun w a => by simp [Instr.fieldAt, Instr.sureAddr, fieldPlace, Try.runUnderlying40, Try.sizeOf5]⟩
instance : Fld Try.prog 40 5 5 := ⟨fun w a => by simp [Instr.fieldAt, Instr.sureAddr, fieldPlace, Try.runUnderlying40, Try.sizeOf5]⟩
instance : Fld Try.prog 40 6 6 := ⟨fun w a => by simp [Instr.fieldAt, Instr.sureAddr, fieldPlace, Try.runUnderlying40, Try.sizeOf35]⟩
instance : Fld Try.prog 40 7 7 := ⟨fun w a => by simp [Instr.fieldAt, Instr.sureAddr, fieldPlace, Try.runUnderlying40, Try.sizeOf36]⟩
instance : Fld Try.prog 40 8 8 := ⟨fun w a => by simp [Instr.fieldAt, Instr.sureAddr, fieldPlace, Try.runUnderlying40, Try.sizeOf37]⟩
instance : Fld Try.prog 40 9 9 := ⟨fun w a => by simp [Instr.fieldAt, Instr.sureAddr, fieldPlace, Try.runUnderlying40, Try.sizeOf38]⟩
instance : Fld Try.prog 40 10 10 := ⟨fun w a => by simp [Instr.fieldAt, Instr.sureAddr, fieldPlace, Try.runUnderlying40, Try.sizeOf39]⟩
instance : Siz Try.prog 41 11 := ⟨Try.sizeOf41⟩
instance : Agg Try.prog 41 true := ⟨Try.isAgg41⟩
instance : Zer Try.prog 41 (.agg #[.int .u64 0, .int .u64 0, .int .u32 0, .int .u8 0, .int .u8 0, .int .u8 0, .int .u8 0, .nilFunc, .pointer none, .int .i32 0, .int .i32 0]) := ⟨Try.zeroValue41⟩
instance : Fld Try.prog 41 0 0 := ⟨fun w a => by simp [Instr.fieldAt, Instr.sureAddr, fieldPlace, Try.runUnderlying41, Try.sizeOf12]⟩
instance : Fld Try.prog 41 1 1 := ⟨fun w a => by simp [Instr.fieldAt, Instr.sureAddr, fieldPlace, Try.runUnderlying41, Try.sizeOf12]⟩
instance : Fld Try.prog 41 2 2 := ⟨fun w a => by simp [Instr.fieldAt, Instr.sureAddr, fieldPlace, Try.runUnderlying41, Try.sizeOf33]⟩
instance : Fld Try.prog 41 3 3 := ⟨fun w a => by simp [Instr.fieldAt, Instr.sureAddr, fieldPlace, Try.runUnderlying41, Try.sizeOf34]⟩
instance : Fld Try.prog 41 4 4 := ⟨fun w a => by simp [Instr.fieldAt, Instr.sureAddr, fieldPlace, Try.runUnderlying41, Try.sizeOf5]⟩
instance : Fld Try.prog 41 5 5 := ⟨fun w a => by simp [Instr.fieldAt, Instr.sureAddr, fieldPlace, Try.runUnderlying41, Try.sizeOf5]⟩
instance : Fld Try.prog 41 6 6 := ⟨fun w a => by simp [Instr.fieldAt, Instr.sureAddr, fieldPlace, Try.runUnderlying41, Try.sizeOf35]⟩
instance : Fld Try.prog 41 7 7 := ⟨fun w a => by simp [Instr.fieldAt, Instr.sureAddr, fieldPlace, Try.runUnderlying41, Try.sizeOf36]⟩
instance : Fld Try.prog 41 8 8 := ⟨fun w a => by simp [Instr.fieldAt, Instr.sureAddr, fieldPlace, Try.runUnderlying41, Try.sizeOf37]⟩
instance : Fld Try.prog 41 9 9 := ⟨fun w a => by simp [Instr.fieldAt, Instr.sureAddr, fieldPlace, Try.runUnderlying41, Try.sizeOf38]⟩
instance : Fld Try.prog 41 10 10 := ⟨fun w a => by simp [Instr.fieldAt, Instr.sureAddr, fieldPlace, Try.runUnderlying41, Try.sizeOf39]⟩
instance : Siz Try.prog 42 1 := ⟨Try.sizeOf42⟩
instance : Agg Try.prog 42 false := ⟨Try.isAgg42⟩
instance : Zer Try.prog 42 (.pointer none) := ⟨Try.zeroValue42⟩
instance : Mix Try.prog := ⟨by decide⟩
end Go.Proofs
