/- The facts on a seat's types, as instances of the abstract logic's classes. No condition. -/
import Derived.Test.YtpfalehodcbnbaaOpen
import Derived.Test.YtpfalehodcbnbaaProg
namespace Go.Proofs
open Go.AL
instance : Cel Try.prog 0 1 := ⟨by kernel_rfl⟩
instance : Siz Try.prog 0 1 := ⟨Try.sizeOf0⟩
instance : Cel Try.prog 1 1 := ⟨by kernel_rfl⟩
instance : Siz Try.prog 1 1 := ⟨Try.sizeOf1⟩
instance : Agg Try.prog 1 false := ⟨Try.isAgg1⟩
instance : Zer Try.prog 1 (.nilFunc) := ⟨Try.zeroValue1⟩
instance : Inf Try.prog 1 1 8 (.nilFunc) := ⟨inf_of (by kernel_rfl)⟩
instance : Und Try.prog 2 (.int .i64) := ⟨Try.underlying2⟩
instance : Cel Try.prog 2 1 := ⟨by kernel_rfl⟩
instance : Siz Try.prog 2 1 := ⟨Try.sizeOf2⟩
instance : Agg Try.prog 2 false := ⟨Try.isAgg2⟩
instance : Zer Try.prog 2 (.int .i64 0) := ⟨Try.zeroValue2⟩
instance : Inf Try.prog 2 1 8 (.int .i64 0) := ⟨inf_of (by kernel_rfl)⟩
instance : Und Try.prog 3 (.int .i64) := ⟨Try.underlying3⟩
instance : Cel Try.prog 3 1 := ⟨by kernel_rfl⟩
instance : Siz Try.prog 3 1 := ⟨Try.sizeOf3⟩
instance : Agg Try.prog 3 false := ⟨Try.isAgg3⟩
instance : Zer Try.prog 3 (.int .i64 0) := ⟨Try.zeroValue3⟩
instance : Inf Try.prog 3 1 8 (.int .i64 0) := ⟨inf_of (by kernel_rfl)⟩
instance : Und Try.prog 4 .bool := ⟨Try.underlying4⟩
instance : Cel Try.prog 4 1 := ⟨by kernel_rfl⟩
instance : Siz Try.prog 4 1 := ⟨Try.sizeOf4⟩
instance : Agg Try.prog 4 false := ⟨Try.isAgg4⟩
instance : Zer Try.prog 4 (.bool false) := ⟨Try.zeroValue4⟩
instance : Inf Try.prog 4 1 1 (.bool false) := ⟨inf_of (by kernel_rfl)⟩
instance : Und Try.prog 5 (.int .u8) := ⟨Try.underlying5⟩
instance : Cel Try.prog 5 1 := ⟨by kernel_rfl⟩
instance : Siz Try.prog 5 1 := ⟨Try.sizeOf5⟩
instance : Agg Try.prog 5 false := ⟨Try.isAgg5⟩
instance : Zer Try.prog 5 (.int .u8 0) := ⟨Try.zeroValue5⟩
instance : Inf Try.prog 5 1 1 (.int .u8 0) := ⟨inf_of (by kernel_rfl)⟩
instance : Und Try.prog 6 (.int .u8) := ⟨Try.underlying6⟩
instance : Cel Try.prog 6 1 := ⟨by kernel_rfl⟩
instance : Siz Try.prog 6 1 := ⟨Try.sizeOf6⟩
instance : Agg Try.prog 6 false := ⟨Try.isAgg6⟩
instance : Zer Try.prog 6 (.int .u8 0) := ⟨Try.zeroValue6⟩
instance : Inf Try.prog 6 1 1 (.int .u8 0) := ⟨inf_of (by kernel_rfl)⟩
instance : Cel Try.prog 7 4 := ⟨by kernel_rfl⟩
instance : Siz Try.prog 7 4 := ⟨Try.sizeOf7⟩
instance : Agg Try.prog 7 true := ⟨Try.isAgg7⟩
instance : Zer Try.prog 7 (.agg #[.int .i64 0, .int .i64 0, .bool false, .int .u8 0]) := ⟨Try.zeroValue7⟩
instance : Inf Try.prog 7 4 24 (.agg #[.int .i64 0, .int .i64 0, .bool false, .int .u8 0]) := ⟨inf_of (by kernel_rfl)⟩
instance : Plc Try.prog 7 [(0, 1), (1, 1), (2, 1), (3, 1)] := ⟨⟨_, Try.runUnderlying7, fun w => by simp [Try.sizeOf2, Try.sizeOf3, Try.sizeOf4, Try.sizeOf6]⟩⟩
instance : Fld Try.prog 7 0 0 := ⟨fun w a => by simp [Instr.fieldAt, Instr.sureAddr, fieldPlace, Try.runUnderlying7, Try.sizeOf2]⟩
instance : Fld Try.prog 7 1 1 := ⟨fun w a => by simp [Instr.fieldAt, Instr.sureAddr, fieldPlace, Try.runUnderlying7, Try.sizeOf3]⟩
instance : Fld Try.prog 7 2 2 := ⟨fun w a => by simp [Instr.fieldAt, Instr.sureAddr, fieldPlace, Try.runUnderlying7, Try.sizeOf4]⟩
instance : Fld Try.prog 7 3 3 := ⟨fun w a => by simp [Instr.fieldAt, Instr.sureAddr, fieldPlace, Try.runUnderlying7, Try.sizeOf6]⟩
instance : Cel Try.prog 8 4 := ⟨by kernel_rfl⟩
instance : Siz Try.prog 8 4 := ⟨Try.sizeOf8⟩
instance : Agg Try.prog 8 true := ⟨Try.isAgg8⟩
instance : Zer Try.prog 8 (.agg #[.int .i64 0, .int .i64 0, .bool false, .int .u8 0]) := ⟨Try.zeroValue8⟩
instance : Inf Try.prog 8 4 24 (.agg #[.int .i64 0, .int .i64 0, .bool false, .int .u8 0]) := ⟨inf_of (by kernel_rfl)⟩
instance : Plc Try.prog 8 [(0, 1), (1, 1), (2, 1), (3, 1)] := ⟨⟨_, Try.runUnderlying8, fun w => by simp [Try.sizeOf2, Try.sizeOf3, Try.sizeOf4, Try.sizeOf6]⟩⟩
instance : Fld Try.prog 8 0 0 := ⟨fun w a => by simp [Instr.fieldAt, Instr.sureAddr, fieldPlace, Try.runUnderlying8, Try.sizeOf2]⟩
instance : Fld Try.prog 8 1 1 := ⟨fun w a => by simp [Instr.fieldAt, Instr.sureAddr, fieldPlace, Try.runUnderlying8, Try.sizeOf3]⟩
instance : Fld Try.prog 8 2 2 := ⟨fun w a => by simp [Instr.fieldAt, Instr.sureAddr, fieldPlace, Try.runUnderlying8, Try.sizeOf4]⟩
instance : Fld Try.prog 8 3 3 := ⟨fun w a => by simp [Instr.fieldAt, Instr.sureAddr, fieldPlace, Try.runUnderlying8, Try.sizeOf6]⟩
instance : Und Try.prog 9 .string := ⟨Try.underlying9⟩
instance : Cel Try.prog 9 1 := ⟨by kernel_rfl⟩
instance : Siz Try.prog 9 1 := ⟨Try.sizeOf9⟩
instance : Agg Try.prog 9 false := ⟨Try.isAgg9⟩
instance : Zer Try.prog 9 (.string ⟨#[]⟩) := ⟨Try.zeroValue9⟩
instance : Inf Try.prog 9 1 16 (.string ⟨#[]⟩) := ⟨inf_of (by kernel_rfl)⟩
instance : Und Try.prog 10 .string := ⟨Try.underlying10⟩
instance : Cel Try.prog 10 1 := ⟨by kernel_rfl⟩
instance : Siz Try.prog 10 1 := ⟨Try.sizeOf10⟩
instance : Agg Try.prog 10 false := ⟨Try.isAgg10⟩
instance : Zer Try.prog 10 (.string ⟨#[]⟩) := ⟨Try.zeroValue10⟩
instance : Inf Try.prog 10 1 16 (.string ⟨#[]⟩) := ⟨inf_of (by kernel_rfl)⟩
instance : Und Try.prog 11 .string := ⟨Try.underlying11⟩
instance : Cel Try.prog 11 1 := ⟨by kernel_rfl⟩
instance : Siz Try.prog 11 1 := ⟨Try.sizeOf11⟩
instance : Agg Try.prog 11 false := ⟨Try.isAgg11⟩
instance : Zer Try.prog 11 (.string ⟨#[]⟩) := ⟨Try.zeroValue11⟩
instance : Inf Try.prog 11 1 16 (.string ⟨#[]⟩) := ⟨inf_of (by kernel_rfl)⟩
instance : Und Try.prog 12 (.int .u64) := ⟨Try.underlying12⟩
instance : Cel Try.prog 12 1 := ⟨by kernel_rfl⟩
instance : Siz Try.prog 12 1 := ⟨Try.sizeOf12⟩
instance : Agg Try.prog 12 false := ⟨Try.isAgg12⟩
instance : Zer Try.prog 12 (.int .u64 0) := ⟨Try.zeroValue12⟩
instance : Inf Try.prog 12 1 8 (.int .u64 0) := ⟨inf_of (by kernel_rfl)⟩
instance : Cel Try.prog 13 2 := ⟨by kernel_rfl⟩
instance : Siz Try.prog 13 2 := ⟨Try.sizeOf13⟩
instance : Agg Try.prog 13 true := ⟨Try.isAgg13⟩
instance : Zer Try.prog 13 (.agg #[.string ⟨#[]⟩, .int .u64 0]) := ⟨Try.zeroValue13⟩
instance : Inf Try.prog 13 2 24 (.agg #[.string ⟨#[]⟩, .int .u64 0]) := ⟨inf_of (by kernel_rfl)⟩
instance : Plc Try.prog 13 [(0, 1), (1, 1)] := ⟨⟨_, Try.runUnderlying13, fun w => by simp [Try.sizeOf12, Try.sizeOf9]⟩⟩
instance : Fld Try.prog 13 0 0 := ⟨fun w a => by simp [Instr.fieldAt, Instr.sureAddr, fieldPlace, Try.runUnderlying13, Try.sizeOf9]⟩
instance : Fld Try.prog 13 1 1 := ⟨fun w a => by simp [Instr.fieldAt, Instr.sureAddr, fieldPlace, Try.runUnderlying13, Try.sizeOf12]⟩
instance : Cel Try.prog 14 2 := ⟨by kernel_rfl⟩
instance : Siz Try.prog 14 2 := ⟨Try.sizeOf14⟩
instance : Agg Try.prog 14 true := ⟨Try.isAgg14⟩
instance : Zer Try.prog 14 (.agg #[.string ⟨#[]⟩, .int .u64 0]) := ⟨Try.zeroValue14⟩
instance : Inf Try.prog 14 2 24 (.agg #[.string ⟨#[]⟩, .int .u64 0]) := ⟨inf_of (by kernel_rfl)⟩
instance : Plc Try.prog 14 [(0, 1), (1, 1)] := ⟨⟨_, Try.runUnderlying14, fun w => by simp [Try.sizeOf12, Try.sizeOf9]⟩⟩
instance : Fld Try.prog 14 0 0 := ⟨fun w a => by simp [Instr.fieldAt, Instr.sureAddr, fieldPlace, Try.runUnderlying14, Try.sizeOf9]⟩
instance : Fld Try.prog 14 1 1 := ⟨fun w a => by simp [Instr.fieldAt, Instr.sureAddr, fieldPlace, Try.runUnderlying14, Try.sizeOf12]⟩
instance : Und Try.prog 15 (.pointer 154) := ⟨Try.underlying15⟩
instance : Cel Try.prog 15 1 := ⟨by kernel_rfl⟩
instance : Siz Try.prog 15 1 := ⟨Try.sizeOf15⟩
instance : Agg Try.prog 15 false := ⟨Try.isAgg15⟩
instance : Zer Try.prog 15 (.pointer none) := ⟨Try.zeroValue15⟩
instance : Inf Try.prog 15 1 8 (.pointer none) := ⟨inf_of (by kernel_rfl)⟩
instance : Und Try.prog 16 (.pointer 157) := ⟨Try.underlying16⟩
instance : Cel Try.prog 16 1 := ⟨by kernel_rfl⟩
instance : Siz Try.prog 16 1 := ⟨Try.sizeOf16⟩
instance : Agg Try.prog 16 false := ⟨Try.isAgg16⟩
instance : Zer Try.prog 16 (.pointer none) := ⟨Try.zeroValue16⟩
instance : Inf Try.prog 16 1 8 (.pointer none) := ⟨inf_of (by kernel_rfl)⟩
instance : Und Try.prog 17 (.pointer 166) := ⟨Try.underlying17⟩
instance : Cel Try.prog 17 1 := ⟨by kernel_rfl⟩
instance : Siz Try.prog 17 1 := ⟨Try.sizeOf17⟩
instance : Agg Try.prog 17 false := ⟨Try.isAgg17⟩
instance : Zer Try.prog 17 (.pointer none) := ⟨Try.zeroValue17⟩
instance : Inf Try.prog 17 1 8 (.pointer none) := ⟨inf_of (by kernel_rfl)⟩
instance : Cel Try.prog 18 1 := ⟨by kernel_rfl⟩
instance : Siz Try.prog 18 1 := ⟨Try.sizeOf18⟩
instance : Agg Try.prog 18 true := ⟨Try.isAgg18⟩
instance : Zer Try.prog 18 (.agg #[.pointer none]) := ⟨Try.zeroValue18⟩
instance : Inf Try.prog 18 1 8 (.agg #[.pointer none]) := ⟨inf_of (by kernel_rfl)⟩
instance : Plc Try.prog 18 [(0, 1)] := ⟨⟨_, Try.runUnderlying18, fun w => by simp [Try.sizeOf17]⟩⟩
instance : Fld Try.prog 18 0 0 := ⟨fun w a => by simp [Instr.fieldAt, Instr.sureAddr, fieldPlace, Try.runUnderlying18, Try.sizeOf17]⟩
instance : Cel Try.prog 19 1 := ⟨by kernel_rfl⟩
instance : Siz Try.prog 19 1 := ⟨Try.sizeOf19⟩
instance : Agg Try.prog 19 true := ⟨Try.isAgg19⟩
instance : Zer Try.prog 19 (.agg #[.pointer none]) := ⟨Try.zeroValue19⟩
instance : Inf Try.prog 19 1 8 (.agg #[.pointer none]) := ⟨inf_of (by kernel_rfl)⟩
instance : Plc Try.prog 19 [(0, 1)] := ⟨⟨_, Try.runUnderlying19, fun w => by simp [Try.sizeOf17]⟩⟩
instance : Fld Try.prog 19 0 0 := ⟨fun w a => by simp [Instr.fieldAt, Instr.sureAddr, fieldPlace, Try.runUnderlying19, Try.sizeOf17]⟩
instance : Cel Try.prog 20 1 := ⟨by kernel_rfl⟩
instance : Siz Try.prog 20 1 := ⟨Try.sizeOf20⟩
instance : Agg Try.prog 20 false := ⟨Try.isAgg20⟩
instance : Zer Try.prog 20 (.nilIface) := ⟨Try.zeroValue20⟩
instance : Inf Try.prog 20 1 16 (.nilIface) := ⟨inf_of (by kernel_rfl)⟩
instance : Und Try.prog 21 (.int .i32) := ⟨Try.underlying21⟩
instance : Cel Try.prog 21 1 := ⟨by kernel_rfl⟩
instance : Siz Try.prog 21 1 := ⟨Try.sizeOf21⟩
instance : Agg Try.prog 21 false := ⟨Try.isAgg21⟩
instance : Zer Try.prog 21 (.int .i32 0) := ⟨Try.zeroValue21⟩
instance : Inf Try.prog 21 1 4 (.int .i32 0) := ⟨inf_of (by kernel_rfl)⟩
instance : Cel Try.prog 22 3 := ⟨by kernel_rfl⟩
instance : Siz Try.prog 22 3 := ⟨Try.sizeOf22⟩
instance : Agg Try.prog 22 true := ⟨Try.isAgg22⟩
instance : Zer Try.prog 22 (.agg #[.int .i64 0, .int .i64 0, .string ⟨#[]⟩]) := ⟨Try.zeroValue22⟩
instance : Inf Try.prog 22 3 32 (.agg #[.int .i64 0, .int .i64 0, .string ⟨#[]⟩]) := ⟨inf_of (by kernel_rfl)⟩
instance : Plc Try.prog 22 [(0, 1), (1, 1), (2, 1)] := ⟨⟨_, Try.runUnderlying22, fun w => by simp [Try.sizeOf2, Try.sizeOf3, Try.sizeOf9]⟩⟩
instance : Fld Try.prog 22 0 0 := ⟨fun w a => by simp [Instr.fieldAt, Instr.sureAddr, fieldPlace, Try.runUnderlying22, Try.sizeOf3]⟩
instance : Fld Try.prog 22 1 1 := ⟨fun w a => by simp [Instr.fieldAt, Instr.sureAddr, fieldPlace, Try.runUnderlying22, Try.sizeOf2]⟩
instance : Fld Try.prog 22 2 2 := ⟨fun w a => by simp [Instr.fieldAt, Instr.sureAddr, fieldPlace, Try.runUnderlying22, Try.sizeOf9]⟩
instance : Cel Try.prog 23 3 := ⟨by kernel_rfl⟩
instance : Siz Try.prog 23 3 := ⟨Try.sizeOf23⟩
instance : Agg Try.prog 23 true := ⟨Try.isAgg23⟩
instance : Zer Try.prog 23 (.agg #[.int .i64 0, .int .i64 0, .string ⟨#[]⟩]) := ⟨Try.zeroValue23⟩
instance : Inf Try.prog 23 3 32 (.agg #[.int .i64 0, .int .i64 0, .string ⟨#[]⟩]) := ⟨inf_of (by kernel_rfl)⟩
instance : Plc Try.prog 23 [(0, 1), (1, 1), (2, 1)] := ⟨⟨_, Try.runUnderlying23, fun w => by simp [Try.sizeOf2, Try.sizeOf3, Try.sizeOf9]⟩⟩
instance : Fld Try.prog 23 0 0 := ⟨fun w a => by simp [Instr.fieldAt, Instr.sureAddr, fieldPlace, Try.runUnderlying23, Try.sizeOf3]⟩
instance : Fld Try.prog 23 1 1 := ⟨fun w a => by simp [Instr.fieldAt, Instr.sureAddr, fieldPlace, Try.runUnderlying23, Try.sizeOf2]⟩
instance : Fld Try.prog 23 2 2 := ⟨fun w a => by simp [Instr.fieldAt, Instr.sureAddr, fieldPlace, Try.runUnderlying23, Try.sizeOf9]⟩
instance : Cel Try.prog 24 1 := ⟨by kernel_rfl⟩
instance : Siz Try.prog 24 1 := ⟨Try.sizeOf24⟩
instance : Agg Try.prog 24 false := ⟨Try.isAgg24⟩
instance : Zer Try.prog 24 (.nilFunc) := ⟨Try.zeroValue24⟩
instance : Inf Try.prog 24 1 8 (.nilFunc) := ⟨inf_of (by kernel_rfl)⟩
instance : Und Try.prog 25 (.int .i64) := ⟨Try.underlying25⟩
instance : Cel Try.prog 25 1 := ⟨by kernel_rfl⟩
instance : Siz Try.prog 25 1 := ⟨Try.sizeOf25⟩
instance : Agg Try.prog 25 false := ⟨Try.isAgg25⟩
instance : Zer Try.prog 25 (.int .i64 0) := ⟨Try.zeroValue25⟩
instance : Inf Try.prog 25 1 8 (.int .i64 0) := ⟨inf_of (by kernel_rfl)⟩
instance : Cel Try.prog 26 1 := ⟨by kernel_rfl⟩
instance : Siz Try.prog 26 1 := ⟨Try.sizeOf26⟩
instance : Agg Try.prog 26 false := ⟨Try.isAgg26⟩
instance : Zer Try.prog 26 (.nilFunc) := ⟨Try.zeroValue26⟩
instance : Inf Try.prog 26 1 8 (.nilFunc) := ⟨inf_of (by kernel_rfl)⟩
instance : Cel Try.prog 27 1 := ⟨by kernel_rfl⟩
instance : Siz Try.prog 27 1 := ⟨Try.sizeOf27⟩
instance : Agg Try.prog 27 false := ⟨Try.isAgg27⟩
instance : Zer Try.prog 27 (.nilFunc) := ⟨Try.zeroValue27⟩
instance : Inf Try.prog 27 1 8 (.nilFunc) := ⟨inf_of (by kernel_rfl)⟩
instance : Cel Try.prog 28 1 := ⟨by kernel_rfl⟩
instance : Siz Try.prog 28 1 := ⟨Try.sizeOf28⟩
instance : Agg Try.prog 28 false := ⟨Try.isAgg28⟩
instance : Zer Try.prog 28 (.nilFunc) := ⟨Try.zeroValue28⟩
instance : Inf Try.prog 28 1 8 (.nilFunc) := ⟨inf_of (by kernel_rfl)⟩
instance : Und Try.prog 29 (.slice 23) := ⟨Try.underlying29⟩
instance : Cel Try.prog 29 1 := ⟨by kernel_rfl⟩
instance : Siz Try.prog 29 1 := ⟨Try.sizeOf29⟩
instance : Agg Try.prog 29 false := ⟨Try.isAgg29⟩
instance : Zer Try.prog 29 (.slice none 0 0) := ⟨Try.zeroValue29⟩
instance : Inf Try.prog 29 1 24 (.slice none 0 0) := ⟨inf_of (by kernel_rfl)⟩
instance : Cel Try.prog 30 1 := ⟨by kernel_rfl⟩
instance : Siz Try.prog 30 1 := ⟨Try.sizeOf30⟩
instance : Agg Try.prog 30 false := ⟨Try.isAgg30⟩
instance : Zer Try.prog 30 (.nilFunc) := ⟨Try.zeroValue30⟩
instance : Inf Try.prog 30 1 8 (.nilFunc) := ⟨inf_of (by kernel_rfl)⟩
instance : Cel Try.prog 31 1 := ⟨by kernel_rfl⟩
instance : Siz Try.prog 31 1 := ⟨Try.sizeOf31⟩
instance : Agg Try.prog 31 false := ⟨Try.isAgg31⟩
instance : Zer Try.prog 31 (.nilFunc) := ⟨Try.zeroValue31⟩
instance : Inf Try.prog 31 1 8 (.nilFunc) := ⟨inf_of (by kernel_rfl)⟩
instance : Cel Try.prog 32 1 := ⟨by kernel_rfl⟩
instance : Siz Try.prog 32 1 := ⟨Try.sizeOf32⟩
instance : Agg Try.prog 32 false := ⟨Try.isAgg32⟩
instance : Zer Try.prog 32 (.nilFunc) := ⟨Try.zeroValue32⟩
instance : Inf Try.prog 32 1 8 (.nilFunc) := ⟨inf_of (by kernel_rfl)⟩
instance : Und Try.prog 33 (.slice 37) := ⟨Try.underlying33⟩
instance : Cel Try.prog 33 1 := ⟨by kernel_rfl⟩
instance : Siz Try.prog 33 1 := ⟨Try.sizeOf33⟩
instance : Agg Try.prog 33 false := ⟨Try.isAgg33⟩
instance : Zer Try.prog 33 (.slice none 0 0) := ⟨Try.zeroValue33⟩
instance : Inf Try.prog 33 1 24 (.slice none 0 0) := ⟨inf_of (by kernel_rfl)⟩
instance : Cel Try.prog 34 9 := ⟨by kernel_rfl⟩
instance : Siz Try.prog 34 9 := ⟨Try.sizeOf34⟩
instance : Agg Try.prog 34 true := ⟨Try.isAgg34⟩
instance : Zer Try.prog 34 (.agg #[.int .i64 0, .int .i64 0, .int .i64 0, .int .i64 0, .string ⟨#[]⟩, .int .i64 0, .bool false, .int .i64 0, .int .i64 0]) := ⟨Try.zeroValue34⟩
instance : Inf Try.prog 34 9 80 (.agg #[.int .i64 0, .int .i64 0, .int .i64 0, .int .i64 0, .string ⟨#[]⟩, .int .i64 0, .bool false, .int .i64 0, .int .i64 0]) := ⟨inf_of (by kernel_rfl)⟩
instance : Plc Try.prog 34 [(0, 1), (1, 1), (2, 3), (5, 1), (6, 1), (7, 1), (8, 1)] := ⟨⟨_, Try.runUnderlying34, fun w => by simp [Try.sizeOf2, Try.sizeOf23, Try.sizeOf4]⟩⟩
instance : Fld Try.prog 34 0 0 := ⟨fun w a => by simp [Instr.fieldAt, Instr.sureAddr, fieldPlace, Try.runUnderlying34, Try.sizeOf2]⟩
instance : Fld Try.prog 34 1 1 := ⟨fun w a => by simp [Instr.fieldAt, Instr.sureAddr, fieldPlace, Try.runUnderlying34, Try.sizeOf2]⟩
instance : Fld Try.prog 34 2 2 := ⟨fun w a => by simp [Instr.fieldAt, Instr.sureAddr, fieldPlace, Try.runUnderlying34, Try.sizeOf23]⟩
instance : Fld Try.prog 34 3 5 := ⟨fun w a => by simp [Instr.fieldAt, Instr.sureAddr, fieldPlace, Try.runUnderlying34, Try.sizeOf2]⟩
instance : Fld Try.prog 34 4 6 := ⟨fun w a => by simp [Instr.fieldAt, Instr.sureAddr, fieldPlace, Try.runUnderlying34, Try.sizeOf4]⟩
instance : Fld Try.prog 34 5 7 := ⟨fun w a => by simp [Instr.fieldAt, Instr.sureAddr, fieldPlace, Try.runUnderlying34, Try.sizeOf2]⟩
instance : Fld Try.prog 34 6 8 := ⟨fun w a => by simp [Instr.fieldAt, Instr.sureAddr, fieldPlace, Try.runUnderlying34, Try.sizeOf2]⟩
instance : Cel Try.prog 35 9 := ⟨by kernel_rfl⟩
instance : Siz Try.prog 35 9 := ⟨Try.sizeOf35⟩
instance : Agg Try.prog 35 true := ⟨Try.isAgg35⟩
instance : Zer Try.prog 35 (.agg #[.int .i64 0, .int .i64 0, .int .i64 0, .int .i64 0, .string ⟨#[]⟩, .int .i64 0, .bool false, .int .i64 0, .int .i64 0]) := ⟨Try.zeroValue35⟩
instance : Inf Try.prog 35 9 80 (.agg #[.int .i64 0, .int .i64 0, .int .i64 0, .int .i64 0, .string ⟨#[]⟩, .int .i64 0, .bool false, .int .i64 0, .int .i64 0]) := ⟨inf_of (by kernel_rfl)⟩
instance : Plc Try.prog 35 [(0, 1), (1, 1), (2, 3), (5, 1), (6, 1), (7, 1), (8, 1)] := ⟨⟨_, Try.runUnderlying35, fun w => by simp [Try.sizeOf2, Try.sizeOf23, Try.sizeOf4]⟩⟩
instance : Fld Try.prog 35 0 0 := ⟨fun w a => by simp [Instr.fieldAt, Instr.sureAddr, fieldPlace, Try.runUnderlying35, Try.sizeOf2]⟩
instance : Fld Try.prog 35 1 1 := ⟨fun w a => by simp [Instr.fieldAt, Instr.sureAddr, fieldPlace, Try.runUnderlying35, Try.sizeOf2]⟩
instance : Fld Try.prog 35 2 2 := ⟨fun w a => by simp [Instr.fieldAt, Instr.sureAddr, fieldPlace, Try.runUnderlying35, Try.sizeOf23]⟩
instance : Fld Try.prog 35 3 5 := ⟨fun w a => by simp [Instr.fieldAt, Instr.sureAddr, fieldPlace, Try.runUnderlying35, Try.sizeOf2]⟩
instance : Fld Try.prog 35 4 6 := ⟨fun w a => by simp [Instr.fieldAt, Instr.sureAddr, fieldPlace, Try.runUnderlying35, Try.sizeOf4]⟩
instance : Fld Try.prog 35 5 7 := ⟨fun w a => by simp [Instr.fieldAt, Instr.sureAddr, fieldPlace, Try.runUnderlying35, Try.sizeOf2]⟩
instance : Fld Try.prog 35 6 8 := ⟨fun w a => by simp [Instr.fieldAt, Instr.sureAddr, fieldPlace, Try.runUnderlying35, Try.sizeOf2]⟩
instance : Cel Try.prog 36 5 := ⟨by kernel_rfl⟩
instance : Siz Try.prog 36 5 := ⟨Try.sizeOf36⟩
instance : Agg Try.prog 36 true := ⟨Try.isAgg36⟩
instance : Zer Try.prog 36 (.agg #[.bool false, .int .i64 0, .int .i64 0, .int .i64 0, .string ⟨#[]⟩]) := ⟨Try.zeroValue36⟩
instance : Inf Try.prog 36 5 48 (.agg #[.bool false, .int .i64 0, .int .i64 0, .int .i64 0, .string ⟨#[]⟩]) := ⟨inf_of (by kernel_rfl)⟩
instance : Plc Try.prog 36 [(0, 1), (1, 1), (2, 3)] := ⟨⟨_, Try.runUnderlying36, fun w => by simp [Try.sizeOf2, Try.sizeOf23, Try.sizeOf4]⟩⟩
instance : Fld Try.prog 36 0 0 := ⟨fun w a => by simp [Instr.fieldAt, Instr.sureAddr, fieldPlace, Try.runUnderlying36, Try.sizeOf4]⟩
instance : Fld Try.prog 36 1 1 := ⟨fun w a => by simp [Instr.fieldAt, Instr.sureAddr, fieldPlace, Try.runUnderlying36, Try.sizeOf2]⟩
instance : Fld Try.prog 36 2 2 := ⟨fun w a => by simp [Instr.fieldAt, Instr.sureAddr, fieldPlace, Try.runUnderlying36, Try.sizeOf23]⟩
instance : Cel Try.prog 37 5 := ⟨by kernel_rfl⟩
instance : Siz Try.prog 37 5 := ⟨Try.sizeOf37⟩
instance : Agg Try.prog 37 true := ⟨Try.isAgg37⟩
instance : Zer Try.prog 37 (.agg #[.bool false, .int .i64 0, .int .i64 0, .int .i64 0, .string ⟨#[]⟩]) := ⟨Try.zeroValue37⟩
instance : Inf Try.prog 37 5 48 (.agg #[.bool false, .int .i64 0, .int .i64 0, .int .i64 0, .string ⟨#[]⟩]) := ⟨inf_of (by kernel_rfl)⟩
instance : Plc Try.prog 37 [(0, 1), (1, 1), (2, 3)] := ⟨⟨_, Try.runUnderlying37, fun w => by simp [Try.sizeOf2, Try.sizeOf23, Try.sizeOf4]⟩⟩
instance : Fld Try.prog 37 0 0 := ⟨fun w a => by simp [Instr.fieldAt, Instr.sureAddr, fieldPlace, Try.runUnderlying37, Try.sizeOf4]⟩
instance : Fld Try.prog 37 1 1 := ⟨fun w a => by simp [Instr.fieldAt, Instr.sureAddr, fieldPlace, Try.runUnderlying37, Try.sizeOf2]⟩
instance : Fld Try.prog 37 2 2 := ⟨fun w a => by simp [Instr.fieldAt, Instr.sureAddr, fieldPlace, Try.runUnderlying37, Try.sizeOf23]⟩
instance : Und Try.prog 38 (.slice 5) := ⟨Try.underlying38⟩
instance : Cel Try.prog 38 1 := ⟨by kernel_rfl⟩
instance : Siz Try.prog 38 1 := ⟨Try.sizeOf38⟩
instance : Agg Try.prog 38 false := ⟨Try.isAgg38⟩
instance : Zer Try.prog 38 (.slice none 0 0) := ⟨Try.zeroValue38⟩
instance : Inf Try.prog 38 1 24 (.slice none 0 0) := ⟨inf_of (by kernel_rfl)⟩
instance : Cel Try.prog 39 1 := ⟨by kernel_rfl⟩
instance : Siz Try.prog 39 1 := ⟨Try.sizeOf39⟩
instance : Cel Try.prog 40 1 := ⟨by kernel_rfl⟩
instance : Siz Try.prog 40 1 := ⟨Try.sizeOf40⟩
instance : Agg Try.prog 40 false := ⟨Try.isAgg40⟩
instance : Zer Try.prog 40 (.nilFunc) := ⟨Try.zeroValue40⟩
instance : Inf Try.prog 40 1 8 (.nilFunc) := ⟨inf_of (by kernel_rfl)⟩
instance : Cel Try.prog 41 1 := ⟨by kernel_rfl⟩
instance : Siz Try.prog 41 1 := ⟨Try.sizeOf41⟩
instance : Cel Try.prog 42 1 := ⟨by kernel_rfl⟩
instance : Siz Try.prog 42 1 := ⟨Try.sizeOf42⟩
instance : Agg Try.prog 42 false := ⟨Try.isAgg42⟩
instance : Zer Try.prog 42 (.nilFunc) := ⟨Try.zeroValue42⟩
instance : Inf Try.prog 42 1 8 (.nilFunc) := ⟨inf_of (by kernel_rfl)⟩
instance : Cel Try.prog 43 1 := ⟨by kernel_rfl⟩
instance : Siz Try.prog 43 1 := ⟨Try.sizeOf43⟩
instance : Agg Try.prog 43 false := ⟨Try.isAgg43⟩
instance : Zer Try.prog 43 (.nilFunc) := ⟨Try.zeroValue43⟩
instance : Inf Try.prog 43 1 8 (.nilFunc) := ⟨inf_of (by kernel_rfl)⟩
instance : Cel Try.prog 44 1 := ⟨by kernel_rfl⟩
instance : Siz Try.prog 44 1 := ⟨Try.sizeOf44⟩
instance : Agg Try.prog 44 false := ⟨Try.isAgg44⟩
instance : Zer Try.prog 44 (.nilFunc) := ⟨Try.zeroValue44⟩
instance : Inf Try.prog 44 1 8 (.nilFunc) := ⟨inf_of (by kernel_rfl)⟩
instance : Cel Try.prog 45 1 := ⟨by kernel_rfl⟩
instance : Siz Try.prog 45 1 := ⟨Try.sizeOf45⟩
instance : Agg Try.prog 45 false := ⟨Try.isAgg45⟩
instance : Zer Try.prog 45 (.nilFunc) := ⟨Try.zeroValue45⟩
instance : Inf Try.prog 45 1 8 (.nilFunc) := ⟨inf_of (by kernel_rfl)⟩
instance : Cel Try.prog 46 1 := ⟨by kernel_rfl⟩
instance : Siz Try.prog 46 1 := ⟨Try.sizeOf46⟩
instance : Cel Try.prog 47 1 := ⟨by kernel_rfl⟩
instance : Siz Try.prog 47 1 := ⟨Try.sizeOf47⟩
instance : Agg Try.prog 47 false := ⟨Try.isAgg47⟩
instance : Zer Try.prog 47 (.nilFunc) := ⟨Try.zeroValue47⟩
instance : Inf Try.prog 47 1 8 (.nilFunc) := ⟨inf_of (by kernel_rfl)⟩
instance : Cel Try.prog 48 1 := ⟨by kernel_rfl⟩
instance : Siz Try.prog 48 1 := ⟨Try.sizeOf48⟩
instance : Agg Try.prog 48 false := ⟨Try.isAgg48⟩
instance : Zer Try.prog 48 (.nilFunc) := ⟨Try.zeroValue48⟩
instance : Inf Try.prog 48 1 8 (.nilFunc) := ⟨inf_of (by kernel_rfl)⟩
instance : Cel Try.prog 49 1 := ⟨by kernel_rfl⟩
instance : Siz Try.prog 49 1 := ⟨Try.sizeOf49⟩
instance : Agg Try.prog 49 false := ⟨Try.isAgg49⟩
instance : Zer Try.prog 49 (.nilFunc) := ⟨Try.zeroValue49⟩
instance : Inf Try.prog 49 1 8 (.nilFunc) := ⟨inf_of (by kernel_rfl)⟩
instance : Cel Try.prog 50 1 := ⟨by kernel_rfl⟩
instance : Siz Try.prog 50 1 := ⟨Try.sizeOf50⟩
instance : Agg Try.prog 50 false := ⟨Try.isAgg50⟩
instance : Zer Try.prog 50 (.nilFunc) := ⟨Try.zeroValue50⟩
instance : Inf Try.prog 50 1 8 (.nilFunc) := ⟨inf_of (by kernel_rfl)⟩
instance : Cel Try.prog 51 1 := ⟨by kernel_rfl⟩
instance : Siz Try.prog 51 1 := ⟨Try.sizeOf51⟩
instance : Agg Try.prog 51 false := ⟨Try.isAgg51⟩
instance : Zer Try.prog 51 (.nilFunc) := ⟨Try.zeroValue51⟩
instance : Inf Try.prog 51 1 8 (.nilFunc) := ⟨inf_of (by kernel_rfl)⟩
instance : Cel Try.prog 52 1 := ⟨by kernel_rfl⟩
instance : Siz Try.prog 52 1 := ⟨Try.sizeOf52⟩
instance : Agg Try.prog 52 false := ⟨Try.isAgg52⟩
instance : Zer Try.prog 52 (.nilFunc) := ⟨Try.zeroValue52⟩
instance : Inf Try.prog 52 1 8 (.nilFunc) := ⟨inf_of (by kernel_rfl)⟩
instance : Cel Try.prog 53 1 := ⟨by kernel_rfl⟩
instance : Siz Try.prog 53 1 := ⟨Try.sizeOf53⟩
instance : Agg Try.prog 53 false := ⟨Try.isAgg53⟩
instance : Zer Try.prog 53 (.nilFunc) := ⟨Try.zeroValue53⟩
instance : Inf Try.prog 53 1 8 (.nilFunc) := ⟨inf_of (by kernel_rfl)⟩
instance : Cel Try.prog 54 1 := ⟨by kernel_rfl⟩
instance : Siz Try.prog 54 1 := ⟨Try.sizeOf54⟩
instance : Cel Try.prog 55 1 := ⟨by kernel_rfl⟩
instance : Siz Try.prog 55 1 := ⟨Try.sizeOf55⟩
instance : Agg Try.prog 55 false := ⟨Try.isAgg55⟩
instance : Zer Try.prog 55 (.nilFunc) := ⟨Try.zeroValue55⟩
instance : Inf Try.prog 55 1 8 (.nilFunc) := ⟨inf_of (by kernel_rfl)⟩
instance : Und Try.prog 56 (.slice 35) := ⟨Try.underlying56⟩
instance : Cel Try.prog 56 1 := ⟨by kernel_rfl⟩
instance : Siz Try.prog 56 1 := ⟨Try.sizeOf56⟩
instance : Agg Try.prog 56 false := ⟨Try.isAgg56⟩
instance : Zer Try.prog 56 (.slice none 0 0) := ⟨Try.zeroValue56⟩
instance : Inf Try.prog 56 1 24 (.slice none 0 0) := ⟨inf_of (by kernel_rfl)⟩
instance : Cel Try.prog 57 1 := ⟨by kernel_rfl⟩
instance : Siz Try.prog 57 1 := ⟨Try.sizeOf57⟩
instance : Agg Try.prog 57 false := ⟨Try.isAgg57⟩
instance : Zer Try.prog 57 (.nilFunc) := ⟨Try.zeroValue57⟩
instance : Inf Try.prog 57 1 8 (.nilFunc) := ⟨inf_of (by kernel_rfl)⟩
instance : Cel Try.prog 58 1 := ⟨by kernel_rfl⟩
instance : Siz Try.prog 58 1 := ⟨Try.sizeOf58⟩
instance : Agg Try.prog 58 false := ⟨Try.isAgg58⟩
instance : Zer Try.prog 58 (.nilFunc) := ⟨Try.zeroValue58⟩
instance : Inf Try.prog 58 1 8 (.nilFunc) := ⟨inf_of (by kernel_rfl)⟩
instance : Cel Try.prog 59 1 := ⟨by kernel_rfl⟩
instance : Siz Try.prog 59 1 := ⟨Try.sizeOf59⟩
instance : Agg Try.prog 59 false := ⟨Try.isAgg59⟩
instance : Zer Try.prog 59 (.nilFunc) := ⟨Try.zeroValue59⟩
instance : Inf Try.prog 59 1 8 (.nilFunc) := ⟨inf_of (by kernel_rfl)⟩
instance : Cel Try.prog 60 1 := ⟨by kernel_rfl⟩
instance : Siz Try.prog 60 1 := ⟨Try.sizeOf60⟩
instance : Agg Try.prog 60 false := ⟨Try.isAgg60⟩
instance : Zer Try.prog 60 (.nilFunc) := ⟨Try.zeroValue60⟩
instance : Inf Try.prog 60 1 8 (.nilFunc) := ⟨inf_of (by kernel_rfl)⟩
instance : Cel Try.prog 61 1 := ⟨by kernel_rfl⟩
instance : Siz Try.prog 61 1 := ⟨Try.sizeOf61⟩
instance : Agg Try.prog 61 false := ⟨Try.isAgg61⟩
instance : Zer Try.prog 61 (.nilFunc) := ⟨Try.zeroValue61⟩
instance : Inf Try.prog 61 1 8 (.nilFunc) := ⟨inf_of (by kernel_rfl)⟩
instance : Cel Try.prog 62 1 := ⟨by kernel_rfl⟩
instance : Siz Try.prog 62 1 := ⟨Try.sizeOf62⟩
instance : Agg Try.prog 62 false := ⟨Try.isAgg62⟩
instance : Zer Try.prog 62 (.nilFunc) := ⟨Try.zeroValue62⟩
instance : Inf Try.prog 62 1 8 (.nilFunc) := ⟨inf_of (by kernel_rfl)⟩
instance : Cel Try.prog 63 1 := ⟨by kernel_rfl⟩
instance : Siz Try.prog 63 1 := ⟨Try.sizeOf63⟩
instance : Agg Try.prog 63 false := ⟨Try.isAgg63⟩
instance : Zer Try.prog 63 (.nilFunc) := ⟨Try.zeroValue63⟩
instance : Inf Try.prog 63 1 8 (.nilFunc) := ⟨inf_of (by kernel_rfl)⟩
instance : Cel Try.prog 64 1 := ⟨by kernel_rfl⟩
instance : Siz Try.prog 64 1 := ⟨Try.sizeOf64⟩
instance : Agg Try.prog 64 false := ⟨Try.isAgg64⟩
instance : Zer Try.prog 64 (.nilFunc) := ⟨Try.zeroValue64⟩
instance : Inf Try.prog 64 1 8 (.nilFunc) := ⟨inf_of (by kernel_rfl)⟩
instance : Cel Try.prog 65 1 := ⟨by kernel_rfl⟩
instance : Siz Try.prog 65 1 := ⟨Try.sizeOf65⟩
instance : Agg Try.prog 65 false := ⟨Try.isAgg65⟩
instance : Zer Try.prog 65 (.nilFunc) := ⟨Try.zeroValue65⟩
instance : Inf Try.prog 65 1 8 (.nilFunc) := ⟨inf_of (by kernel_rfl)⟩
instance : Cel Try.prog 66 1 := ⟨by kernel_rfl⟩
instance : Siz Try.prog 66 1 := ⟨Try.sizeOf66⟩
instance : Agg Try.prog 66 false := ⟨Try.isAgg66⟩
instance : Zer Try.prog 66 (.nilFunc) := ⟨Try.zeroValue66⟩
instance : Inf Try.prog 66 1 8 (.nilFunc) := ⟨inf_of (by kernel_rfl)⟩
instance : Cel Try.prog 67 1 := ⟨by kernel_rfl⟩
instance : Siz Try.prog 67 1 := ⟨Try.sizeOf67⟩
instance : Agg Try.prog 67 false := ⟨Try.isAgg67⟩
instance : Zer Try.prog 67 (.nilFunc) := ⟨Try.zeroValue67⟩
instance : Inf Try.prog 67 1 8 (.nilFunc) := ⟨inf_of (by kernel_rfl)⟩
instance : Cel Try.prog 68 1 := ⟨by kernel_rfl⟩
instance : Siz Try.prog 68 1 := ⟨Try.sizeOf68⟩
instance : Agg Try.prog 68 false := ⟨Try.isAgg68⟩
instance : Zer Try.prog 68 (.nilFunc) := ⟨Try.zeroValue68⟩
instance : Inf Try.prog 68 1 8 (.nilFunc) := ⟨inf_of (by kernel_rfl)⟩
instance : Cel Try.prog 69 1 := ⟨by kernel_rfl⟩
instance : Siz Try.prog 69 1 := ⟨Try.sizeOf69⟩
instance : Agg Try.prog 69 false := ⟨Try.isAgg69⟩
instance : Zer Try.prog 69 (.nilFunc) := ⟨Try.zeroValue69⟩
instance : Inf Try.prog 69 1 8 (.nilFunc) := ⟨inf_of (by kernel_rfl)⟩
instance : Cel Try.prog 70 1 := ⟨by kernel_rfl⟩
instance : Siz Try.prog 70 1 := ⟨Try.sizeOf70⟩
instance : Agg Try.prog 70 false := ⟨Try.isAgg70⟩
instance : Zer Try.prog 70 (.nilFunc) := ⟨Try.zeroValue70⟩
instance : Inf Try.prog 70 1 8 (.nilFunc) := ⟨inf_of (by kernel_rfl)⟩
instance : Cel Try.prog 71 1 := ⟨by kernel_rfl⟩
instance : Siz Try.prog 71 1 := ⟨Try.sizeOf71⟩
instance : Agg Try.prog 71 false := ⟨Try.isAgg71⟩
instance : Zer Try.prog 71 (.nilFunc) := ⟨Try.zeroValue71⟩
instance : Inf Try.prog 71 1 8 (.nilFunc) := ⟨inf_of (by kernel_rfl)⟩
instance : Cel Try.prog 72 1 := ⟨by kernel_rfl⟩
instance : Siz Try.prog 72 1 := ⟨Try.sizeOf72⟩
instance : Agg Try.prog 72 false := ⟨Try.isAgg72⟩
instance : Zer Try.prog 72 (.nilFunc) := ⟨Try.zeroValue72⟩
instance : Inf Try.prog 72 1 8 (.nilFunc) := ⟨inf_of (by kernel_rfl)⟩
instance : Cel Try.prog 73 1 := ⟨by kernel_rfl⟩
instance : Siz Try.prog 73 1 := ⟨Try.sizeOf73⟩
instance : Agg Try.prog 73 false := ⟨Try.isAgg73⟩
instance : Zer Try.prog 73 (.nilFunc) := ⟨Try.zeroValue73⟩
instance : Inf Try.prog 73 1 8 (.nilFunc) := ⟨inf_of (by kernel_rfl)⟩
instance : Cel Try.prog 74 1 := ⟨by kernel_rfl⟩
instance : Siz Try.prog 74 1 := ⟨Try.sizeOf74⟩
instance : Agg Try.prog 74 false := ⟨Try.isAgg74⟩
instance : Zer Try.prog 74 (.nilFunc) := ⟨Try.zeroValue74⟩
instance : Inf Try.prog 74 1 8 (.nilFunc) := ⟨inf_of (by kernel_rfl)⟩
instance : Cel Try.prog 75 1 := ⟨by kernel_rfl⟩
instance : Siz Try.prog 75 1 := ⟨Try.sizeOf75⟩
instance : Agg Try.prog 75 false := ⟨Try.isAgg75⟩
instance : Zer Try.prog 75 (.nilFunc) := ⟨Try.zeroValue75⟩
instance : Inf Try.prog 75 1 8 (.nilFunc) := ⟨inf_of (by kernel_rfl)⟩
instance : Cel Try.prog 76 1 := ⟨by kernel_rfl⟩
instance : Siz Try.prog 76 1 := ⟨Try.sizeOf76⟩
instance : Agg Try.prog 76 false := ⟨Try.isAgg76⟩
instance : Zer Try.prog 76 (.nilFunc) := ⟨Try.zeroValue76⟩
instance : Inf Try.prog 76 1 8 (.nilFunc) := ⟨inf_of (by kernel_rfl)⟩
instance : Cel Try.prog 77 1 := ⟨by kernel_rfl⟩
instance : Siz Try.prog 77 1 := ⟨Try.sizeOf77⟩
instance : Agg Try.prog 77 false := ⟨Try.isAgg77⟩
instance : Zer Try.prog 77 (.nilFunc) := ⟨Try.zeroValue77⟩
instance : Inf Try.prog 77 1 8 (.nilFunc) := ⟨inf_of (by kernel_rfl)⟩
instance : Cel Try.prog 78 1 := ⟨by kernel_rfl⟩
instance : Siz Try.prog 78 1 := ⟨Try.sizeOf78⟩
instance : Agg Try.prog 78 false := ⟨Try.isAgg78⟩
instance : Zer Try.prog 78 (.nilFunc) := ⟨Try.zeroValue78⟩
instance : Inf Try.prog 78 1 8 (.nilFunc) := ⟨inf_of (by kernel_rfl)⟩
instance : Cel Try.prog 79 1 := ⟨by kernel_rfl⟩
instance : Siz Try.prog 79 1 := ⟨Try.sizeOf79⟩
instance : Agg Try.prog 79 false := ⟨Try.isAgg79⟩
instance : Zer Try.prog 79 (.nilFunc) := ⟨Try.zeroValue79⟩
instance : Inf Try.prog 79 1 8 (.nilFunc) := ⟨inf_of (by kernel_rfl)⟩
instance : Und Try.prog 80 (.slice 4) := ⟨Try.underlying80⟩
instance : Cel Try.prog 80 1 := ⟨by kernel_rfl⟩
instance : Siz Try.prog 80 1 := ⟨Try.sizeOf80⟩
instance : Agg Try.prog 80 false := ⟨Try.isAgg80⟩
instance : Zer Try.prog 80 (.slice none 0 0) := ⟨Try.zeroValue80⟩
instance : Inf Try.prog 80 1 24 (.slice none 0 0) := ⟨inf_of (by kernel_rfl)⟩
instance : Cel Try.prog 81 1 := ⟨by kernel_rfl⟩
instance : Siz Try.prog 81 1 := ⟨Try.sizeOf81⟩
instance : Cel Try.prog 82 1 := ⟨by kernel_rfl⟩
instance : Siz Try.prog 82 1 := ⟨Try.sizeOf82⟩
instance : Agg Try.prog 82 false := ⟨Try.isAgg82⟩
instance : Zer Try.prog 82 (.nilFunc) := ⟨Try.zeroValue82⟩
instance : Inf Try.prog 82 1 8 (.nilFunc) := ⟨inf_of (by kernel_rfl)⟩
instance : Cel Try.prog 83 1 := ⟨by kernel_rfl⟩
instance : Siz Try.prog 83 1 := ⟨Try.sizeOf83⟩
instance : Agg Try.prog 83 false := ⟨Try.isAgg83⟩
instance : Zer Try.prog 83 (.nilFunc) := ⟨Try.zeroValue83⟩
instance : Inf Try.prog 83 1 8 (.nilFunc) := ⟨inf_of (by kernel_rfl)⟩
instance : Cel Try.prog 84 1 := ⟨by kernel_rfl⟩
instance : Siz Try.prog 84 1 := ⟨Try.sizeOf84⟩
instance : Agg Try.prog 84 false := ⟨Try.isAgg84⟩
instance : Zer Try.prog 84 (.nilFunc) := ⟨Try.zeroValue84⟩
instance : Inf Try.prog 84 1 8 (.nilFunc) := ⟨inf_of (by kernel_rfl)⟩
instance : Cel Try.prog 85 1 := ⟨by kernel_rfl⟩
instance : Siz Try.prog 85 1 := ⟨Try.sizeOf85⟩
instance : Cel Try.prog 86 1 := ⟨by kernel_rfl⟩
instance : Siz Try.prog 86 1 := ⟨Try.sizeOf86⟩
instance : Agg Try.prog 86 false := ⟨Try.isAgg86⟩
instance : Zer Try.prog 86 (.nilFunc) := ⟨Try.zeroValue86⟩
instance : Inf Try.prog 86 1 8 (.nilFunc) := ⟨inf_of (by kernel_rfl)⟩
instance : Cel Try.prog 87 1 := ⟨by kernel_rfl⟩
instance : Siz Try.prog 87 1 := ⟨Try.sizeOf87⟩
instance : Agg Try.prog 87 false := ⟨Try.isAgg87⟩
instance : Zer Try.prog 87 (.nilFunc) := ⟨Try.zeroValue87⟩
instance : Inf Try.prog 87 1 8 (.nilFunc) := ⟨inf_of (by kernel_rfl)⟩
instance : Cel Try.prog 88 1 := ⟨by kernel_rfl⟩
instance : Siz Try.prog 88 1 := ⟨Try.sizeOf88⟩
instance : Agg Try.prog 88 false := ⟨Try.isAgg88⟩
instance : Zer Try.prog 88 (.nilFunc) := ⟨Try.zeroValue88⟩
instance : Inf Try.prog 88 1 8 (.nilFunc) := ⟨inf_of (by kernel_rfl)⟩
instance : Cel Try.prog 89 1 := ⟨by kernel_rfl⟩
instance : Siz Try.prog 89 1 := ⟨Try.sizeOf89⟩
instance : Agg Try.prog 89 false := ⟨Try.isAgg89⟩
instance : Zer Try.prog 89 (.nilFunc) := ⟨Try.zeroValue89⟩
instance : Inf Try.prog 89 1 8 (.nilFunc) := ⟨inf_of (by kernel_rfl)⟩
instance : Cel Try.prog 90 1 := ⟨by kernel_rfl⟩
instance : Siz Try.prog 90 1 := ⟨Try.sizeOf90⟩
instance : Agg Try.prog 90 false := ⟨Try.isAgg90⟩
instance : Zer Try.prog 90 (.nilFunc) := ⟨Try.zeroValue90⟩
instance : Inf Try.prog 90 1 8 (.nilFunc) := ⟨inf_of (by kernel_rfl)⟩
instance : Cel Try.prog 91 1 := ⟨by kernel_rfl⟩
instance : Siz Try.prog 91 1 := ⟨Try.sizeOf91⟩
instance : Agg Try.prog 91 false := ⟨Try.isAgg91⟩
instance : Zer Try.prog 91 (.nilFunc) := ⟨Try.zeroValue91⟩
instance : Inf Try.prog 91 1 8 (.nilFunc) := ⟨inf_of (by kernel_rfl)⟩
instance : Und Try.prog 92 (.slice 3) := ⟨Try.underlying92⟩
instance : Cel Try.prog 92 1 := ⟨by kernel_rfl⟩
instance : Siz Try.prog 92 1 := ⟨Try.sizeOf92⟩
instance : Agg Try.prog 92 false := ⟨Try.isAgg92⟩
instance : Zer Try.prog 92 (.slice none 0 0) := ⟨Try.zeroValue92⟩
instance : Inf Try.prog 92 1 24 (.slice none 0 0) := ⟨inf_of (by kernel_rfl)⟩
instance : Cel Try.prog 93 1 := ⟨by kernel_rfl⟩
instance : Siz Try.prog 93 1 := ⟨Try.sizeOf93⟩
instance : Agg Try.prog 93 false := ⟨Try.isAgg93⟩
instance : Zer Try.prog 93 (.nilFunc) := ⟨Try.zeroValue93⟩
instance : Inf Try.prog 93 1 8 (.nilFunc) := ⟨inf_of (by kernel_rfl)⟩
instance : Cel Try.prog 94 1 := ⟨by kernel_rfl⟩
instance : Siz Try.prog 94 1 := ⟨Try.sizeOf94⟩
instance : Agg Try.prog 94 false := ⟨Try.isAgg94⟩
instance : Zer Try.prog 94 (.nilFunc) := ⟨Try.zeroValue94⟩
instance : Inf Try.prog 94 1 8 (.nilFunc) := ⟨inf_of (by kernel_rfl)⟩
instance : Und Try.prog 95 (.int .u64) := ⟨Try.underlying95⟩
instance : Cel Try.prog 95 1 := ⟨by kernel_rfl⟩
instance : Siz Try.prog 95 1 := ⟨Try.sizeOf95⟩
instance : Agg Try.prog 95 false := ⟨Try.isAgg95⟩
instance : Zer Try.prog 95 (.int .u64 0) := ⟨Try.zeroValue95⟩
instance : Inf Try.prog 95 1 8 (.int .u64 0) := ⟨inf_of (by kernel_rfl)⟩
instance : Cel Try.prog 96 1 := ⟨by kernel_rfl⟩
instance : Siz Try.prog 96 1 := ⟨Try.sizeOf96⟩
instance : Agg Try.prog 96 false := ⟨Try.isAgg96⟩
instance : Zer Try.prog 96 (.nilFunc) := ⟨Try.zeroValue96⟩
instance : Inf Try.prog 96 1 8 (.nilFunc) := ⟨inf_of (by kernel_rfl)⟩
instance : Und Try.prog 97 (.array 3 37) := ⟨Try.underlying97⟩
instance : Cel Try.prog 97 15 := ⟨by kernel_rfl⟩
instance : Siz Try.prog 97 15 := ⟨Try.sizeOf97⟩
instance : Agg Try.prog 97 true := ⟨Try.isAgg97⟩
instance : Zer Try.prog 97 (.agg #[.bool false, .int .i64 0, .int .i64 0, .int .i64 0, .string ⟨#[]⟩, .bool false, .int .i64 0, .int .i64 0, .int .i64 0, .string ⟨#[]⟩, .bool false, .int .i64 0, .int .i64 0, .int .i64 0, .string ⟨#[]⟩]) := ⟨Try.zeroValue97⟩
instance : Inf Try.prog 97 15 144 (.agg #[.bool false, .int .i64 0, .int .i64 0, .int .i64 0, .string ⟨#[]⟩, .bool false, .int .i64 0, .int .i64 0, .int .i64 0, .string ⟨#[]⟩, .bool false, .int .i64 0, .int .i64 0, .int .i64 0, .string ⟨#[]⟩]) := ⟨inf_of (by kernel_rfl)⟩
instance : Cel Try.prog 98 1 := ⟨by kernel_rfl⟩
instance : Siz Try.prog 98 1 := ⟨Try.sizeOf98⟩
instance : Agg Try.prog 98 false := ⟨Try.isAgg98⟩
instance : Zer Try.prog 98 (.nilFunc) := ⟨Try.zeroValue98⟩
instance : Inf Try.prog 98 1 8 (.nilFunc) := ⟨inf_of (by kernel_rfl)⟩
instance : Und Try.prog 99 (.slice 2) := ⟨Try.underlying99⟩
instance : Cel Try.prog 99 1 := ⟨by kernel_rfl⟩
instance : Siz Try.prog 99 1 := ⟨Try.sizeOf99⟩
instance : Agg Try.prog 99 false := ⟨Try.isAgg99⟩
instance : Zer Try.prog 99 (.slice none 0 0) := ⟨Try.zeroValue99⟩
instance : Inf Try.prog 99 1 24 (.slice none 0 0) := ⟨inf_of (by kernel_rfl)⟩
instance : Cel Try.prog 100 1 := ⟨by kernel_rfl⟩
instance : Siz Try.prog 100 1 := ⟨Try.sizeOf100⟩
instance : Agg Try.prog 100 false := ⟨Try.isAgg100⟩
instance : Zer Try.prog 100 (.nilFunc) := ⟨Try.zeroValue100⟩
instance : Inf Try.prog 100 1 8 (.nilFunc) := ⟨inf_of (by kernel_rfl)⟩
instance : Cel Try.prog 101 1 := ⟨by kernel_rfl⟩
instance : Siz Try.prog 101 1 := ⟨Try.sizeOf101⟩
instance : Agg Try.prog 101 false := ⟨Try.isAgg101⟩
instance : Zer Try.prog 101 (.nilFunc) := ⟨Try.zeroValue101⟩
instance : Inf Try.prog 101 1 8 (.nilFunc) := ⟨inf_of (by kernel_rfl)⟩
instance : Cel Try.prog 102 1 := ⟨by kernel_rfl⟩
instance : Siz Try.prog 102 1 := ⟨Try.sizeOf102⟩
instance : Agg Try.prog 102 false := ⟨Try.isAgg102⟩
instance : Zer Try.prog 102 (.nilFunc) := ⟨Try.zeroValue102⟩
instance : Inf Try.prog 102 1 8 (.nilFunc) := ⟨inf_of (by kernel_rfl)⟩
instance : Cel Try.prog 103 1 := ⟨by kernel_rfl⟩
instance : Siz Try.prog 103 1 := ⟨Try.sizeOf103⟩
instance : Agg Try.prog 103 false := ⟨Try.isAgg103⟩
instance : Zer Try.prog 103 (.nilFunc) := ⟨Try.zeroValue103⟩
instance : Inf Try.prog 103 1 8 (.nilFunc) := ⟨inf_of (by kernel_rfl)⟩
instance : Und Try.prog 104 (.pointer 106) := ⟨Try.underlying104⟩
instance : Cel Try.prog 104 1 := ⟨by kernel_rfl⟩
instance : Siz Try.prog 104 1 := ⟨Try.sizeOf104⟩
instance : Agg Try.prog 104 false := ⟨Try.isAgg104⟩
instance : Zer Try.prog 104 (.pointer none) := ⟨Try.zeroValue104⟩
instance : Inf Try.prog 104 1 8 (.pointer none) := ⟨inf_of (by kernel_rfl)⟩
instance : Cel Try.prog 105 2 := ⟨by kernel_rfl⟩
instance : Siz Try.prog 105 2 := ⟨Try.sizeOf105⟩
instance : Agg Try.prog 105 true := ⟨Try.isAgg105⟩
instance : Zer Try.prog 105 (.agg #[.slice none 0 0, .bool false]) := ⟨Try.zeroValue105⟩
instance : Inf Try.prog 105 2 32 (.agg #[.slice none 0 0, .bool false]) := ⟨inf_of (by kernel_rfl)⟩
instance : Plc Try.prog 105 [(0, 1), (1, 1)] := ⟨⟨_, Try.runUnderlying105, fun w => by simp [Try.sizeOf38, Try.sizeOf4]⟩⟩
instance : Fld Try.prog 105 0 0 := ⟨fun w a => by simp [Instr.fieldAt, Instr.sureAddr, fieldPlace, Try.runUnderlying105, Try.sizeOf38]⟩
instance : Fld Try.prog 105 1 1 := ⟨fun w a => by simp [Instr.fieldAt, Instr.sureAddr, fieldPlace, Try.runUnderlying105, Try.sizeOf4]⟩
instance : Cel Try.prog 106 2 := ⟨by kernel_rfl⟩
instance : Siz Try.prog 106 2 := ⟨Try.sizeOf106⟩
instance : Agg Try.prog 106 true := ⟨Try.isAgg106⟩
instance : Zer Try.prog 106 (.agg #[.slice none 0 0, .bool false]) := ⟨Try.zeroValue106⟩
instance : Inf Try.prog 106 2 32 (.agg #[.slice none 0 0, .bool false]) := ⟨inf_of (by kernel_rfl)⟩
instance : Plc Try.prog 106 [(0, 1), (1, 1)] := ⟨⟨_, Try.runUnderlying106, fun w => by simp [Try.sizeOf38, Try.sizeOf4]⟩⟩
instance : Fld Try.prog 106 0 0 := ⟨fun w a => by simp [Instr.fieldAt, Instr.sureAddr, fieldPlace, Try.runUnderlying106, Try.sizeOf38]⟩
instance : Fld Try.prog 106 1 1 := ⟨fun w a => by simp [Instr.fieldAt, Instr.sureAddr, fieldPlace, Try.runUnderlying106, Try.sizeOf4]⟩
instance : Cel Try.prog 107 1 := ⟨by kernel_rfl⟩
instance : Siz Try.prog 107 1 := ⟨Try.sizeOf107⟩
instance : Agg Try.prog 107 false := ⟨Try.isAgg107⟩
instance : Zer Try.prog 107 (.nilFunc) := ⟨Try.zeroValue107⟩
instance : Inf Try.prog 107 1 8 (.nilFunc) := ⟨inf_of (by kernel_rfl)⟩
instance : Cel Try.prog 108 1 := ⟨by kernel_rfl⟩
instance : Siz Try.prog 108 1 := ⟨Try.sizeOf108⟩
instance : Agg Try.prog 108 false := ⟨Try.isAgg108⟩
instance : Zer Try.prog 108 (.nilFunc) := ⟨Try.zeroValue108⟩
instance : Inf Try.prog 108 1 8 (.nilFunc) := ⟨inf_of (by kernel_rfl)⟩
instance : Cel Try.prog 109 1 := ⟨by kernel_rfl⟩
instance : Siz Try.prog 109 1 := ⟨Try.sizeOf109⟩
instance : Agg Try.prog 109 false := ⟨Try.isAgg109⟩
instance : Zer Try.prog 109 (.nilFunc) := ⟨Try.zeroValue109⟩
instance : Inf Try.prog 109 1 8 (.nilFunc) := ⟨inf_of (by kernel_rfl)⟩
instance : Cel Try.prog 110 1 := ⟨by kernel_rfl⟩
instance : Siz Try.prog 110 1 := ⟨Try.sizeOf110⟩
instance : Cel Try.prog 111 1 := ⟨by kernel_rfl⟩
instance : Siz Try.prog 111 1 := ⟨Try.sizeOf111⟩
instance : Agg Try.prog 111 false := ⟨Try.isAgg111⟩
instance : Zer Try.prog 111 (.nilFunc) := ⟨Try.zeroValue111⟩
instance : Inf Try.prog 111 1 8 (.nilFunc) := ⟨inf_of (by kernel_rfl)⟩
instance : Cel Try.prog 112 1 := ⟨by kernel_rfl⟩
instance : Siz Try.prog 112 1 := ⟨Try.sizeOf112⟩
instance : Agg Try.prog 112 false := ⟨Try.isAgg112⟩
instance : Zer Try.prog 112 (.nilFunc) := ⟨Try.zeroValue112⟩
instance : Inf Try.prog 112 1 8 (.nilFunc) := ⟨inf_of (by kernel_rfl)⟩
instance : Cel Try.prog 113 1 := ⟨by kernel_rfl⟩
instance : Siz Try.prog 113 1 := ⟨Try.sizeOf113⟩
instance : Agg Try.prog 113 false := ⟨Try.isAgg113⟩
instance : Zer Try.prog 113 (.nilFunc) := ⟨Try.zeroValue113⟩
instance : Inf Try.prog 113 1 8 (.nilFunc) := ⟨inf_of (by kernel_rfl)⟩
instance : Cel Try.prog 114 1 := ⟨by kernel_rfl⟩
instance : Siz Try.prog 114 1 := ⟨Try.sizeOf114⟩
instance : Agg Try.prog 114 false := ⟨Try.isAgg114⟩
instance : Zer Try.prog 114 (.nilFunc) := ⟨Try.zeroValue114⟩
instance : Inf Try.prog 114 1 8 (.nilFunc) := ⟨inf_of (by kernel_rfl)⟩
instance : Cel Try.prog 115 1 := ⟨by kernel_rfl⟩
instance : Siz Try.prog 115 1 := ⟨Try.sizeOf115⟩
instance : Agg Try.prog 115 false := ⟨Try.isAgg115⟩
instance : Zer Try.prog 115 (.nilFunc) := ⟨Try.zeroValue115⟩
instance : Inf Try.prog 115 1 8 (.nilFunc) := ⟨inf_of (by kernel_rfl)⟩
instance : Und Try.prog 116 (.int .i64) := ⟨Try.underlying116⟩
instance : Cel Try.prog 116 1 := ⟨by kernel_rfl⟩
instance : Siz Try.prog 116 1 := ⟨Try.sizeOf116⟩
instance : Agg Try.prog 116 false := ⟨Try.isAgg116⟩
instance : Zer Try.prog 116 (.int .i64 0) := ⟨Try.zeroValue116⟩
instance : Inf Try.prog 116 1 8 (.int .i64 0) := ⟨inf_of (by kernel_rfl)⟩
instance : Cel Try.prog 117 1 := ⟨by kernel_rfl⟩
instance : Siz Try.prog 117 1 := ⟨Try.sizeOf117⟩
instance : Cel Try.prog 118 1 := ⟨by kernel_rfl⟩
instance : Siz Try.prog 118 1 := ⟨Try.sizeOf118⟩
instance : Agg Try.prog 118 false := ⟨Try.isAgg118⟩
instance : Zer Try.prog 118 (.nilFunc) := ⟨Try.zeroValue118⟩
instance : Inf Try.prog 118 1 8 (.nilFunc) := ⟨inf_of (by kernel_rfl)⟩
instance : Cel Try.prog 119 1 := ⟨by kernel_rfl⟩
instance : Siz Try.prog 119 1 := ⟨Try.sizeOf119⟩
instance : Agg Try.prog 119 false := ⟨Try.isAgg119⟩
instance : Zer Try.prog 119 (.nilFunc) := ⟨Try.zeroValue119⟩
instance : Inf Try.prog 119 1 8 (.nilFunc) := ⟨inf_of (by kernel_rfl)⟩
instance : Cel Try.prog 120 1 := ⟨by kernel_rfl⟩
instance : Siz Try.prog 120 1 := ⟨Try.sizeOf120⟩
instance : Agg Try.prog 120 false := ⟨Try.isAgg120⟩
instance : Zer Try.prog 120 (.nilFunc) := ⟨Try.zeroValue120⟩
instance : Inf Try.prog 120 1 8 (.nilFunc) := ⟨inf_of (by kernel_rfl)⟩
instance : Cel Try.prog 121 1 := ⟨by kernel_rfl⟩
instance : Siz Try.prog 121 1 := ⟨Try.sizeOf121⟩
instance : Cel Try.prog 122 1 := ⟨by kernel_rfl⟩
instance : Siz Try.prog 122 1 := ⟨Try.sizeOf122⟩
instance : Agg Try.prog 122 false := ⟨Try.isAgg122⟩
instance : Zer Try.prog 122 (.nilFunc) := ⟨Try.zeroValue122⟩
instance : Inf Try.prog 122 1 8 (.nilFunc) := ⟨inf_of (by kernel_rfl)⟩
instance : Cel Try.prog 123 1 := ⟨by kernel_rfl⟩
instance : Siz Try.prog 123 1 := ⟨Try.sizeOf123⟩
instance : Agg Try.prog 123 false := ⟨Try.isAgg123⟩
instance : Zer Try.prog 123 (.nilFunc) := ⟨Try.zeroValue123⟩
instance : Inf Try.prog 123 1 8 (.nilFunc) := ⟨inf_of (by kernel_rfl)⟩
instance : Und Try.prog 124 (.int .u32) := ⟨Try.underlying124⟩
instance : Cel Try.prog 124 1 := ⟨by kernel_rfl⟩
instance : Siz Try.prog 124 1 := ⟨Try.sizeOf124⟩
instance : Agg Try.prog 124 false := ⟨Try.isAgg124⟩
instance : Zer Try.prog 124 (.int .u32 0) := ⟨Try.zeroValue124⟩
instance : Inf Try.prog 124 1 4 (.int .u32 0) := ⟨inf_of (by kernel_rfl)⟩
instance : Cel Try.prog 125 1 := ⟨by kernel_rfl⟩
instance : Siz Try.prog 125 1 := ⟨Try.sizeOf125⟩
instance : Agg Try.prog 125 false := ⟨Try.isAgg125⟩
instance : Zer Try.prog 125 (.nilFunc) := ⟨Try.zeroValue125⟩
instance : Inf Try.prog 125 1 8 (.nilFunc) := ⟨inf_of (by kernel_rfl)⟩
instance : Und Try.prog 126 (.int .u64) := ⟨Try.underlying126⟩
instance : Cel Try.prog 126 1 := ⟨by kernel_rfl⟩
instance : Siz Try.prog 126 1 := ⟨Try.sizeOf126⟩
instance : Agg Try.prog 126 false := ⟨Try.isAgg126⟩
instance : Zer Try.prog 126 (.int .u64 0) := ⟨Try.zeroValue126⟩
instance : Inf Try.prog 126 1 8 (.int .u64 0) := ⟨inf_of (by kernel_rfl)⟩
instance : Cel Try.prog 127 1 := ⟨by kernel_rfl⟩
instance : Siz Try.prog 127 1 := ⟨Try.sizeOf127⟩
instance : Agg Try.prog 127 false := ⟨Try.isAgg127⟩
instance : Zer Try.prog 127 (.nilFunc) := ⟨Try.zeroValue127⟩
instance : Inf Try.prog 127 1 8 (.nilFunc) := ⟨inf_of (by kernel_rfl)⟩
instance : Und Try.prog 128 (.array 8 5) := ⟨Try.underlying128⟩
instance : Cel Try.prog 128 8 := ⟨by kernel_rfl⟩
instance : Siz Try.prog 128 8 := ⟨Try.sizeOf128⟩
instance : Agg Try.prog 128 true := ⟨Try.isAgg128⟩
instance : Zer Try.prog 128 (.agg #[.int .u8 0, .int .u8 0, .int .u8 0, .int .u8 0, .int .u8 0, .int .u8 0, .int .u8 0, .int .u8 0]) := ⟨Try.zeroValue128⟩
instance : Inf Try.prog 128 8 8 (.agg #[.int .u8 0, .int .u8 0, .int .u8 0, .int .u8 0, .int .u8 0, .int .u8 0, .int .u8 0, .int .u8 0]) := ⟨inf_of (by kernel_rfl)⟩
instance : Cel Try.prog 129 1 := ⟨by kernel_rfl⟩
instance : Siz Try.prog 129 1 := ⟨Try.sizeOf129⟩
instance : Agg Try.prog 129 false := ⟨Try.isAgg129⟩
instance : Zer Try.prog 129 (.nilFunc) := ⟨Try.zeroValue129⟩
instance : Inf Try.prog 129 1 8 (.nilFunc) := ⟨inf_of (by kernel_rfl)⟩
instance : Cel Try.prog 130 1 := ⟨by kernel_rfl⟩
instance : Siz Try.prog 130 1 := ⟨Try.sizeOf130⟩
instance : Agg Try.prog 130 false := ⟨Try.isAgg130⟩
instance : Zer Try.prog 130 (.nilFunc) := ⟨Try.zeroValue130⟩
instance : Inf Try.prog 130 1 8 (.nilFunc) := ⟨inf_of (by kernel_rfl)⟩
instance : Cel Try.prog 131 1 := ⟨by kernel_rfl⟩
instance : Siz Try.prog 131 1 := ⟨Try.sizeOf131⟩
instance : Agg Try.prog 131 false := ⟨Try.isAgg131⟩
instance : Zer Try.prog 131 (.nilFunc) := ⟨Try.zeroValue131⟩
instance : Inf Try.prog 131 1 8 (.nilFunc) := ⟨inf_of (by kernel_rfl)⟩
instance : Cel Try.prog 132 1 := ⟨by kernel_rfl⟩
instance : Siz Try.prog 132 1 := ⟨Try.sizeOf132⟩
instance : Agg Try.prog 132 false := ⟨Try.isAgg132⟩
instance : Zer Try.prog 132 (.nilFunc) := ⟨Try.zeroValue132⟩
instance : Inf Try.prog 132 1 8 (.nilFunc) := ⟨inf_of (by kernel_rfl)⟩
instance : Cel Try.prog 133 1 := ⟨by kernel_rfl⟩
instance : Siz Try.prog 133 1 := ⟨Try.sizeOf133⟩
instance : Agg Try.prog 133 false := ⟨Try.isAgg133⟩
instance : Zer Try.prog 133 (.nilFunc) := ⟨Try.zeroValue133⟩
instance : Inf Try.prog 133 1 8 (.nilFunc) := ⟨inf_of (by kernel_rfl)⟩
instance : Cel Try.prog 134 1 := ⟨by kernel_rfl⟩
instance : Siz Try.prog 134 1 := ⟨Try.sizeOf134⟩
instance : Agg Try.prog 134 false := ⟨Try.isAgg134⟩
instance : Zer Try.prog 134 (.nilFunc) := ⟨Try.zeroValue134⟩
instance : Inf Try.prog 134 1 8 (.nilFunc) := ⟨inf_of (by kernel_rfl)⟩
instance : Cel Try.prog 135 1 := ⟨by kernel_rfl⟩
instance : Siz Try.prog 135 1 := ⟨Try.sizeOf135⟩
instance : Agg Try.prog 135 false := ⟨Try.isAgg135⟩
instance : Zer Try.prog 135 (.nilFunc) := ⟨Try.zeroValue135⟩
instance : Inf Try.prog 135 1 8 (.nilFunc) := ⟨inf_of (by kernel_rfl)⟩
instance : Cel Try.prog 136 1 := ⟨by kernel_rfl⟩
instance : Siz Try.prog 136 1 := ⟨Try.sizeOf136⟩
instance : Agg Try.prog 136 false := ⟨Try.isAgg136⟩
instance : Zer Try.prog 136 (.nilFunc) := ⟨Try.zeroValue136⟩
instance : Inf Try.prog 136 1 8 (.nilFunc) := ⟨inf_of (by kernel_rfl)⟩
instance : Cel Try.prog 137 1 := ⟨by kernel_rfl⟩
instance : Siz Try.prog 137 1 := ⟨Try.sizeOf137⟩
instance : Agg Try.prog 137 false := ⟨Try.isAgg137⟩
instance : Zer Try.prog 137 (.nilFunc) := ⟨Try.zeroValue137⟩
instance : Inf Try.prog 137 1 8 (.nilFunc) := ⟨inf_of (by kernel_rfl)⟩
instance : Cel Try.prog 138 1 := ⟨by kernel_rfl⟩
instance : Siz Try.prog 138 1 := ⟨Try.sizeOf138⟩
instance : Agg Try.prog 138 false := ⟨Try.isAgg138⟩
instance : Zer Try.prog 138 (.nilFunc) := ⟨Try.zeroValue138⟩
instance : Inf Try.prog 138 1 8 (.nilFunc) := ⟨inf_of (by kernel_rfl)⟩
instance : Und Try.prog 139 (.int .u64) := ⟨Try.underlying139⟩
instance : Cel Try.prog 139 1 := ⟨by kernel_rfl⟩
instance : Siz Try.prog 139 1 := ⟨Try.sizeOf139⟩
instance : Agg Try.prog 139 false := ⟨Try.isAgg139⟩
instance : Zer Try.prog 139 (.int .u64 0) := ⟨Try.zeroValue139⟩
instance : Inf Try.prog 139 1 8 (.int .u64 0) := ⟨inf_of (by kernel_rfl)⟩
instance : Cel Try.prog 140 1 := ⟨by kernel_rfl⟩
instance : Siz Try.prog 140 1 := ⟨Try.sizeOf140⟩
instance : Agg Try.prog 140 false := ⟨Try.isAgg140⟩
instance : Zer Try.prog 140 (.nilFunc) := ⟨Try.zeroValue140⟩
instance : Inf Try.prog 140 1 8 (.nilFunc) := ⟨inf_of (by kernel_rfl)⟩
instance : Cel Try.prog 141 1 := ⟨by kernel_rfl⟩
instance : Siz Try.prog 141 1 := ⟨Try.sizeOf141⟩
instance : Agg Try.prog 141 false := ⟨Try.isAgg141⟩
instance : Zer Try.prog 141 (.nilFunc) := ⟨Try.zeroValue141⟩
instance : Inf Try.prog 141 1 8 (.nilFunc) := ⟨inf_of (by kernel_rfl)⟩
instance : Cel Try.prog 142 1 := ⟨by kernel_rfl⟩
instance : Siz Try.prog 142 1 := ⟨Try.sizeOf142⟩
instance : Agg Try.prog 142 false := ⟨Try.isAgg142⟩
instance : Zer Try.prog 142 (.nilFunc) := ⟨Try.zeroValue142⟩
instance : Inf Try.prog 142 1 8 (.nilFunc) := ⟨inf_of (by kernel_rfl)⟩
instance : Und Try.prog 143 (.pointer 3) := ⟨Try.underlying143⟩
instance : Cel Try.prog 143 1 := ⟨by kernel_rfl⟩
instance : Siz Try.prog 143 1 := ⟨Try.sizeOf143⟩
instance : Agg Try.prog 143 false := ⟨Try.isAgg143⟩
instance : Zer Try.prog 143 (.pointer none) := ⟨Try.zeroValue143⟩
instance : Inf Try.prog 143 1 8 (.pointer none) := ⟨inf_of (by kernel_rfl)⟩
instance : Cel Try.prog 144 1 := ⟨by kernel_rfl⟩
instance : Siz Try.prog 144 1 := ⟨Try.sizeOf144⟩
instance : Agg Try.prog 144 false := ⟨Try.isAgg144⟩
instance : Zer Try.prog 144 (.nilFunc) := ⟨Try.zeroValue144⟩
instance : Inf Try.prog 144 1 8 (.nilFunc) := ⟨inf_of (by kernel_rfl)⟩
instance : Cel Try.prog 145 1 := ⟨by kernel_rfl⟩
instance : Siz Try.prog 145 1 := ⟨Try.sizeOf145⟩
instance : Agg Try.prog 145 false := ⟨Try.isAgg145⟩
instance : Zer Try.prog 145 (.nilFunc) := ⟨Try.zeroValue145⟩
instance : Inf Try.prog 145 1 8 (.nilFunc) := ⟨inf_of (by kernel_rfl)⟩
instance : Cel Try.prog 146 1 := ⟨by kernel_rfl⟩
instance : Siz Try.prog 146 1 := ⟨Try.sizeOf146⟩
instance : Agg Try.prog 146 false := ⟨Try.isAgg146⟩
instance : Zer Try.prog 146 (.nilFunc) := ⟨Try.zeroValue146⟩
instance : Inf Try.prog 146 1 8 (.nilFunc) := ⟨inf_of (by kernel_rfl)⟩
instance : Cel Try.prog 147 1 := ⟨by kernel_rfl⟩
instance : Siz Try.prog 147 1 := ⟨Try.sizeOf147⟩
instance : Agg Try.prog 147 false := ⟨Try.isAgg147⟩
instance : Zer Try.prog 147 (.nilFunc) := ⟨Try.zeroValue147⟩
instance : Inf Try.prog 147 1 8 (.nilFunc) := ⟨inf_of (by kernel_rfl)⟩
instance : Cel Try.prog 148 1 := ⟨by kernel_rfl⟩
instance : Siz Try.prog 148 1 := ⟨Try.sizeOf148⟩
instance : Agg Try.prog 148 false := ⟨Try.isAgg148⟩
instance : Zer Try.prog 148 (.nilFunc) := ⟨Try.zeroValue148⟩
instance : Inf Try.prog 148 1 8 (.nilFunc) := ⟨inf_of (by kernel_rfl)⟩
instance : Und Try.prog 149 (.pointer 139) := ⟨Try.underlying149⟩
instance : Cel Try.prog 149 1 := ⟨by kernel_rfl⟩
instance : Siz Try.prog 149 1 := ⟨Try.sizeOf149⟩
instance : Agg Try.prog 149 false := ⟨Try.isAgg149⟩
instance : Zer Try.prog 149 (.pointer none) := ⟨Try.zeroValue149⟩
instance : Inf Try.prog 149 1 8 (.pointer none) := ⟨inf_of (by kernel_rfl)⟩
instance : Cel Try.prog 150 1 := ⟨by kernel_rfl⟩
instance : Siz Try.prog 150 1 := ⟨Try.sizeOf150⟩
instance : Cel Try.prog 151 1 := ⟨by kernel_rfl⟩
instance : Siz Try.prog 151 1 := ⟨Try.sizeOf151⟩
instance : Agg Try.prog 151 false := ⟨Try.isAgg151⟩
instance : Zer Try.prog 151 (.nilFunc) := ⟨Try.zeroValue151⟩
instance : Inf Try.prog 151 1 8 (.nilFunc) := ⟨inf_of (by kernel_rfl)⟩
instance : Cel Try.prog 152 1 := ⟨by kernel_rfl⟩
instance : Siz Try.prog 152 1 := ⟨Try.sizeOf152⟩
instance : Agg Try.prog 152 false := ⟨Try.isAgg152⟩
instance : Zer Try.prog 152 (.nilFunc) := ⟨Try.zeroValue152⟩
instance : Inf Try.prog 152 1 8 (.nilFunc) := ⟨inf_of (by kernel_rfl)⟩
instance : Cel Try.prog 153 4 := ⟨by kernel_rfl⟩
instance : Siz Try.prog 153 4 := ⟨Try.sizeOf153⟩
instance : Agg Try.prog 153 true := ⟨Try.isAgg153⟩
instance : Zer Try.prog 153 (.agg #[.pointer none, .pointer none, .pointer none, .string ⟨#[]⟩]) := ⟨Try.zeroValue153⟩
instance : Inf Try.prog 153 4 40 (.agg #[.pointer none, .pointer none, .pointer none, .string ⟨#[]⟩]) := ⟨inf_of (by kernel_rfl)⟩
instance : Plc Try.prog 153 [(0, 1), (1, 1), (2, 1), (3, 1)] := ⟨⟨_, Try.runUnderlying153, fun w => by simp [Try.sizeOf17, Try.sizeOf9]⟩⟩
instance : Fld Try.prog 153 0 0 := ⟨fun w a => by simp [Instr.fieldAt, Instr.sureAddr, fieldPlace, Try.runUnderlying153, Try.sizeOf17]⟩
instance : Fld Try.prog 153 1 1 := ⟨fun w a => by simp [Instr.fieldAt, Instr.sureAddr, fieldPlace, Try.runUnderlying153, Try.sizeOf17]⟩
instance : Fld Try.prog 153 2 2 := ⟨fun w a => by simp [Instr.fieldAt, Instr.sureAddr, fieldPlace, Try.runUnderlying153, Try.sizeOf17]⟩
instance : Fld Try.prog 153 3 3 := ⟨fun w a => by simp [Instr.fieldAt, Instr.sureAddr, fieldPlace, Try.runUnderlying153, Try.sizeOf9]⟩
instance : Cel Try.prog 154 4 := ⟨by kernel_rfl⟩
instance : Siz Try.prog 154 4 := ⟨Try.sizeOf154⟩
instance : Agg Try.prog 154 true := ⟨Try.isAgg154⟩
instance : Zer Try.prog 154 (.agg #[.pointer none, .pointer none, .pointer none, .string ⟨#[]⟩]) := ⟨Try.zeroValue154⟩
instance : Inf Try.prog 154 4 40 (.agg #[.pointer none, .pointer none, .pointer none, .string ⟨#[]⟩]) := ⟨inf_of (by kernel_rfl)⟩
instance : Plc Try.prog 154 [(0, 1), (1, 1), (2, 1), (3, 1)] := ⟨⟨_, Try.runUnderlying154, fun w => by simp [Try.sizeOf17, Try.sizeOf9]⟩⟩
instance : Fld Try.prog 154 0 0 := ⟨fun w a => by simp [Instr.fieldAt, Instr.sureAddr, fieldPlace, Try.runUnderlying154, Try.sizeOf17]⟩
instance : Fld Try.prog 154 1 1 := ⟨fun w a => by simp [Instr.fieldAt, Instr.sureAddr, fieldPlace, Try.runUnderlying154, Try.sizeOf17]⟩
instance : Fld Try.prog 154 2 2 := ⟨fun w a => by simp [Instr.fieldAt, Instr.sureAddr, fieldPlace, Try.runUnderlying154, Try.sizeOf17]⟩
instance : Fld Try.prog 154 3 3 := ⟨fun w a => by simp [Instr.fieldAt, Instr.sureAddr, fieldPlace, Try.runUnderlying154, Try.sizeOf9]⟩
instance : Und Try.prog 155 (.array 0 16) := ⟨Try.underlying155⟩
instance : Cel Try.prog 155 0 := ⟨by kernel_rfl⟩
instance : Siz Try.prog 155 0 := ⟨Try.sizeOf155⟩
instance : Agg Try.prog 155 true := ⟨Try.isAgg155⟩
instance : Zer Try.prog 155 (.agg #[]) := ⟨Try.zeroValue155⟩
instance : Inf Try.prog 155 0 0 (.agg #[]) := ⟨inf_of (by kernel_rfl)⟩
instance : Cel Try.prog 156 0 := ⟨by kernel_rfl⟩
instance : Siz Try.prog 156 0 := ⟨Try.sizeOf156⟩
instance : Agg Try.prog 156 true := ⟨Try.isAgg156⟩
instance : Zer Try.prog 156 (.agg #[]) := ⟨Try.zeroValue156⟩
instance : Inf Try.prog 156 0 0 (.agg #[]) := ⟨inf_of (by kernel_rfl)⟩
instance : Plc Try.prog 156 [(0, 0)] := ⟨⟨_, Try.runUnderlying156, fun w => by simp [Try.sizeOf155]⟩⟩
instance : Cel Try.prog 157 0 := ⟨by kernel_rfl⟩
instance : Siz Try.prog 157 0 := ⟨Try.sizeOf157⟩
instance : Agg Try.prog 157 true := ⟨Try.isAgg157⟩
instance : Zer Try.prog 157 (.agg #[]) := ⟨Try.zeroValue157⟩
instance : Inf Try.prog 157 0 0 (.agg #[]) := ⟨inf_of (by kernel_rfl)⟩
instance : Plc Try.prog 157 [(0, 0)] := ⟨⟨_, Try.runUnderlying157, fun w => by simp [Try.sizeOf155]⟩⟩
instance : Cel Try.prog 158 1 := ⟨by kernel_rfl⟩
instance : Siz Try.prog 158 1 := ⟨Try.sizeOf158⟩
instance : Agg Try.prog 158 false := ⟨Try.isAgg158⟩
instance : Zer Try.prog 158 (.nilFunc) := ⟨Try.zeroValue158⟩
instance : Inf Try.prog 158 1 8 (.nilFunc) := ⟨inf_of (by kernel_rfl)⟩
instance : Und Try.prog 159 (.int .u8) := ⟨Try.underlying159⟩
instance : Cel Try.prog 159 1 := ⟨by kernel_rfl⟩
instance : Siz Try.prog 159 1 := ⟨Try.sizeOf159⟩
instance : Agg Try.prog 159 false := ⟨Try.isAgg159⟩
instance : Zer Try.prog 159 (.int .u8 0) := ⟨Try.zeroValue159⟩
instance : Inf Try.prog 159 1 1 (.int .u8 0) := ⟨inf_of (by kernel_rfl)⟩
instance : Und Try.prog 160 (.int .u8) := ⟨Try.underlying160⟩
instance : Cel Try.prog 160 1 := ⟨by kernel_rfl⟩
instance : Siz Try.prog 160 1 := ⟨Try.sizeOf160⟩
instance : Agg Try.prog 160 false := ⟨Try.isAgg160⟩
instance : Zer Try.prog 160 (.int .u8 0) := ⟨Try.zeroValue160⟩
instance : Inf Try.prog 160 1 1 (.int .u8 0) := ⟨inf_of (by kernel_rfl)⟩
instance : Cel Try.prog 161 1 := ⟨by kernel_rfl⟩
instance : Siz Try.prog 161 1 := ⟨Try.sizeOf161⟩
instance : Agg Try.prog 161 false := ⟨Try.isAgg161⟩
instance : Zer Try.prog 161 (.nilFunc) := ⟨Try.zeroValue161⟩
instance : Inf Try.prog 161 1 8 (.nilFunc) := ⟨inf_of (by kernel_rfl)⟩
instance : Und Try.prog 162 (.pointer 5) := ⟨Try.underlying162⟩
instance : Cel Try.prog 162 1 := ⟨by kernel_rfl⟩
instance : Siz Try.prog 162 1 := ⟨Try.sizeOf162⟩
instance : Agg Try.prog 162 false := ⟨Try.isAgg162⟩
instance : Zer Try.prog 162 (.pointer none) := ⟨Try.zeroValue162⟩
instance : Inf Try.prog 162 1 8 (.pointer none) := ⟨inf_of (by kernel_rfl)⟩
instance : Und Try.prog 163 (.int .i32) := ⟨Try.underlying163⟩
instance : Cel Try.prog 163 1 := ⟨by kernel_rfl⟩
instance : Siz Try.prog 163 1 := ⟨Try.sizeOf163⟩
instance : Agg Try.prog 163 false := ⟨Try.isAgg163⟩
instance : Zer Try.prog 163 (.int .i32 0) := ⟨Try.zeroValue163⟩
instance : Inf Try.prog 163 1 4 (.int .i32 0) := ⟨inf_of (by kernel_rfl)⟩
instance : Und Try.prog 164 (.int .i32) := ⟨Try.underlying164⟩
instance : Cel Try.prog 164 1 := ⟨by kernel_rfl⟩
instance : Siz Try.prog 164 1 := ⟨Try.sizeOf164⟩
instance : Agg Try.prog 164 false := ⟨Try.isAgg164⟩
instance : Zer Try.prog 164 (.int .i32 0) := ⟨Try.zeroValue164⟩
instance : Inf Try.prog 164 1 4 (.int .i32 0) := ⟨inf_of (by kernel_rfl)⟩
instance : Cel Try.prog 165 11 := ⟨by kernel_rfl⟩
instance : Siz Try.prog 165 11 := ⟨Try.sizeOf165⟩
instance : Agg Try.prog 165 true := ⟨Try.isAgg165⟩
instance : Zer Try.prog 165 (.agg #[.int .u64 0, .int .u64 0, .int .u32 0, .int .u8 0, .int .u8 0, .int .u8 0, .int .u8 0, .nilFunc, .pointer none, .int .i32 0, .int .i32 0]) := ⟨Try.zeroValue165⟩
instance : Inf Try.prog 165 11 48 (.agg #[.int .u64 0, .int .u64 0, .int .u32 0, .int .u8 0, .int .u8 0, .int .u8 0, .int .u8 0, .nilFunc, .pointer none, .int .i32 0, .int .i32 0]) := ⟨inf_of (by kernel_rfl)⟩
instance : Plc Try.prog 165 [(0, 1), (1, 1), (2, 1), (3, 1), (4, 1), (5, 1), (6, 1), (7, 1), (8, 1), (9, 1), (10, 1)] := ⟨⟨_, Try.runUnderlying165, fun w => by simp [Try.sizeOf12, Try.sizeOf124, Try.sizeOf159, Try.sizeOf160, Try.sizeOf161, Try.sizeOf162, Try.sizeOf163, Try.sizeOf164, Try.sizeOf5]⟩⟩
instance : Fld Try.prog 165 0 0 := ⟨fun w a => by simp [Instr.fieldAt, Instr.sureAddr, fieldPlace, Try.runUnderlying165, Try.sizeOf12]⟩
instance : Fld Try.prog 165 1 1 := ⟨fun w a => by simp [Instr.fieldAt, Instr.sureAddr, fieldPlace, Try.runUnderlying165, Try.sizeOf12]⟩
instance : Fld Try.prog 165 2 2 := ⟨fun w a => by simp [Instr.fieldAt, Instr.sureAddr, fieldPlace, Try.runUnderlying165, Try.sizeOf124]⟩
instance : Fld Try.prog 165 3 3 := ⟨fun w a => by simp [Instr.fieldAt, Instr.sureAddr, fieldPlace, Try.runUnderlying165, Try.sizeOf159]⟩
instance : Fld Try.prog 165 4 4 := ⟨fun w a => by simp [Instr.fieldAt, Instr.sureAddr, fieldPlace, Try.runUnderlying165, Try.sizeOf5]⟩
instance : Fld Try.prog 165 5 5 := ⟨fun w a => by simp [Instr.fieldAt, Instr.sureAddr, fieldPlace, Try.runUnderlying165, Try.sizeOf5]⟩
instance : Fld Try.prog 165 6 6 := ⟨fun w a => by simp [Instr.fieldAt, Instr.sureAddr, fieldPlace, Try.runUnderlying165, Try.sizeOf160]⟩
instance : Fld Try.prog 165 7 7 := ⟨fun w a => by simp [Instr.fieldAt, Instr.sureAddr, fieldPlace, Try.runUnderlying165, Try.sizeOf161]⟩
instance : Fld Try.prog 165 8 8 := ⟨fun w a => by simp [Instr.fieldAt, Instr.sureAddr, fieldPlace, Try.runUnderlying165, Try.sizeOf162]⟩
instance : Fld Try.prog 165 9 9 := ⟨fun w a => by simp [Instr.fieldAt, Instr.sureAddr, fieldPlace, Try.runUnderlying165, Try.sizeOf163]⟩
instance : Fld Try.prog 165 10 10 := ⟨fun w a => by simp [Instr.fieldAt, Instr.sureAddr, fieldPlace, Try.runUnderlying165, Try.sizeOf164]⟩
instance : Cel Try.prog 166 11 := ⟨by kernel_rfl⟩
instance : Siz Try.prog 166 11 := ⟨Try.sizeOf166⟩
instance : Agg Try.prog 166 true := ⟨Try.isAgg166⟩
instance : Zer Try.prog 166 (.agg #[.int .u64 0, .int .u64 0, .int .u32 0, .int .u8 0, .int .u8 0, .int .u8 0, .int .u8 0, .nilFunc, .pointer none, .int .i32 0, .int .i32 0]) := ⟨Try.zeroValue166⟩
instance : Inf Try.prog 166 11 48 (.agg #[.int .u64 0, .int .u64 0, .int .u32 0, .int .u8 0, .int .u8 0, .int .u8 0, .int .u8 0, .nilFunc, .pointer none, .int .i32 0, .int .i32 0]) := ⟨inf_of (by kernel_rfl)⟩
instance : Plc Try.prog 166 [(0, 1), (1, 1), (2, 1), (3, 1), (4, 1), (5, 1), (6, 1), (7, 1), (8, 1), (9, 1), (10, 1)] := ⟨⟨_, Try.runUnderlying166, fun w => by simp [Try.sizeOf12, Try.sizeOf124, Try.sizeOf159, Try.sizeOf160, Try.sizeOf161, Try.sizeOf162, Try.sizeOf163, Try.sizeOf164, Try.sizeOf5]⟩⟩
instance : Fld Try.prog 166 0 0 := ⟨fun w a => by simp [Instr.fieldAt, Instr.sureAddr, fieldPlace, Try.runUnderlying166, Try.sizeOf12]⟩
instance : Fld Try.prog 166 1 1 := ⟨fun w a => by simp [Instr.fieldAt, Instr.sureAddr, fieldPlace, Try.runUnderlying166, Try.sizeOf12]⟩
instance : Fld Try.prog 166 2 2 := ⟨fun w a => by simp [Instr.fieldAt, Instr.sureAddr, fieldPlace, Try.runUnderlying166, Try.sizeOf124]⟩
instance : Fld Try.prog 166 3 3 := ⟨fun w a => by simp [Instr.fieldAt, Instr.sureAddr, fieldPlace, Try.runUnderlying166, Try.sizeOf159]⟩
instance : Fld Try.prog 166 4 4 := ⟨fun w a => by simp [Instr.fieldAt, Instr.sureAddr, fieldPlace, Try.runUnderlying166, Try.sizeOf5]⟩
instance : Fld Try.prog 166 5 5 := ⟨fun w a => by simp [Instr.fieldAt, Instr.sureAddr, fieldPlace, Try.runUnderlying166, Try.sizeOf5]⟩
instance : Fld Try.prog 166 6 6 := ⟨fun w a => by simp [Instr.fieldAt, Instr.sureAddr, fieldPlace, Try.runUnderlying166, Try.sizeOf160]⟩
instance : Fld Try.prog 166 7 7 := ⟨fun w a => by simp [Instr.fieldAt, Instr.sureAddr, fieldPlace, Try.runUnderlying166, Try.sizeOf161]⟩
instance : Fld Try.prog 166 8 8 := ⟨fun w a => by simp [Instr.fieldAt, Instr.sureAddr, fieldPlace, Try.runUnderlying166, Try.sizeOf162]⟩
instance : Fld Try.prog 166 9 9 := ⟨fun w a => by simp [Instr.fieldAt, Instr.sureAddr, fieldPlace, Try.runUnderlying166, Try.sizeOf163]⟩
instance : Fld Try.prog 166 10 10 := ⟨fun w a => by simp [Instr.fieldAt, Instr.sureAddr, fieldPlace, Try.runUnderlying166, Try.sizeOf164]⟩
instance : Cel Try.prog 167 1 := ⟨by kernel_rfl⟩
instance : Siz Try.prog 167 1 := ⟨Try.sizeOf167⟩
instance : Agg Try.prog 167 false := ⟨Try.isAgg167⟩
instance : Zer Try.prog 167 (.pointer none) := ⟨Try.zeroValue167⟩
instance : Inf Try.prog 167 1 8 (.pointer none) := ⟨inf_of (by kernel_rfl)⟩
instance : Mix Try.prog := ⟨by decide⟩
end Go.Proofs
