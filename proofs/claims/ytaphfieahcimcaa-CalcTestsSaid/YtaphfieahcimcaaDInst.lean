/- The facts on a seat's types, as instances of the abstract logic's classes. No condition. -/
import Derived.Test.YtaphfieahcimcaaOpen
import Derived.Test.YtaphfieahcimcaaProg
namespace Go.Proofs
open Go.AL
instance : Cel Try.prog 0 1 := ⟨by kernel_rfl⟩
instance : Siz Try.prog 0 1 := ⟨Try.sizeOf0⟩
instance : Cel Try.prog 1 1 := ⟨by kernel_rfl⟩
instance : Siz Try.prog 1 1 := ⟨Try.sizeOf1⟩
instance : Agg Try.prog 1 false := ⟨Try.isAgg1⟩
instance : Zer Try.prog 1 (.nilFunc) := ⟨Try.zeroValue1⟩
instance : Inf Try.prog 1 1 8 (.nilFunc) := ⟨inf_of (by kernel_rfl)⟩
instance : Und Try.prog 2 (.int .i64) := ⟨Try.underlying2⟩
instance : Cel Try.prog 2 1 := ⟨by kernel_rfl⟩
instance : Siz Try.prog 2 1 := ⟨Try.sizeOf2⟩
instance : Agg Try.prog 2 false := ⟨Try.isAgg2⟩
instance : Zer Try.prog 2 (.int .i64 0) := ⟨Try.zeroValue2⟩
instance : Inf Try.prog 2 1 8 (.int .i64 0) := ⟨inf_of (by kernel_rfl)⟩
instance : Und Try.prog 3 (.int .i64) := ⟨Try.underlying3⟩
instance : Cel Try.prog 3 1 := ⟨by kernel_rfl⟩
instance : Siz Try.prog 3 1 := ⟨Try.sizeOf3⟩
instance : Agg Try.prog 3 false := ⟨Try.isAgg3⟩
instance : Zer Try.prog 3 (.int .i64 0) := ⟨Try.zeroValue3⟩
instance : Inf Try.prog 3 1 8 (.int .i64 0) := ⟨inf_of (by kernel_rfl)⟩
instance : Und Try.prog 4 .bool := ⟨Try.underlying4⟩
instance : Cel Try.prog 4 1 := ⟨by kernel_rfl⟩
instance : Siz Try.prog 4 1 := ⟨Try.sizeOf4⟩
instance : Agg Try.prog 4 false := ⟨Try.isAgg4⟩
instance : Zer Try.prog 4 (.bool false) := ⟨Try.zeroValue4⟩
instance : Inf Try.prog 4 1 1 (.bool false) := ⟨inf_of (by kernel_rfl)⟩
instance : Und Try.prog 5 (.int .u8) := ⟨Try.underlying5⟩
instance : Cel Try.prog 5 1 := ⟨by kernel_rfl⟩
instance : Siz Try.prog 5 1 := ⟨Try.sizeOf5⟩
instance : Agg Try.prog 5 false := ⟨Try.isAgg5⟩
instance : Zer Try.prog 5 (.int .u8 0) := ⟨Try.zeroValue5⟩
instance : Inf Try.prog 5 1 1 (.int .u8 0) := ⟨inf_of (by kernel_rfl)⟩
instance : Und Try.prog 6 (.int .u8) := ⟨Try.underlying6⟩
instance : Cel Try.prog 6 1 := ⟨by kernel_rfl⟩
instance : Siz Try.prog 6 1 := ⟨Try.sizeOf6⟩
instance : Agg Try.prog 6 false := ⟨Try.isAgg6⟩
instance : Zer Try.prog 6 (.int .u8 0) := ⟨Try.zeroValue6⟩
instance : Inf Try.prog 6 1 1 (.int .u8 0) := ⟨inf_of (by kernel_rfl)⟩
instance : Cel Try.prog 7 4 := ⟨by kernel_rfl⟩
instance : Siz Try.prog 7 4 := ⟨Try.sizeOf7⟩
instance : Agg Try.prog 7 true := ⟨Try.isAgg7⟩
instance : Zer Try.prog 7 (.agg #[.int .i64 0, .int .i64 0, .bool false, .int .u8 0]) := ⟨Try.zeroValue7⟩
instance : Inf Try.prog 7 4 24 (.agg #[.int .i64 0, .int .i64 0, .bool false, .int .u8 0]) := ⟨inf_of (by kernel_rfl)⟩
instance : Plc Try.prog 7 [(0, 1), (1, 1), (2, 1), (3, 1)] := ⟨⟨_, Try.runUnderlying7, fun w => by simp [Try.sizeOf2, Try.sizeOf3, Try.sizeOf4, Try.sizeOf6]⟩⟩
instance : Fld Try.prog 7 0 0 := ⟨fun w a => by simp [Instr.fieldAt, Instr.sureAddr, fieldPlace, Try.runUnderlying7, Try.sizeOf2]⟩
instance : Fld Try.prog 7 1 1 := ⟨fun w a => by simp [Instr.fieldAt, Instr.sureAddr, fieldPlace, Try.runUnderlying7, Try.sizeOf3]⟩
instance : Fld Try.prog 7 2 2 := ⟨fun w a => by simp [Instr.fieldAt, Instr.sureAddr, fieldPlace, Try.runUnderlying7, Try.sizeOf4]⟩
instance : Fld Try.prog 7 3 3 := ⟨fun w a => by simp [Instr.fieldAt, Instr.sureAddr, fieldPlace, Try.runUnderlying7, Try.sizeOf6]⟩
instance : Cel Try.prog 8 4 := ⟨by kernel_rfl⟩
instance : Siz Try.prog 8 4 := ⟨Try.sizeOf8⟩
instance : Agg Try.prog 8 true := ⟨Try.isAgg8⟩
instance : Zer Try.prog 8 (.agg #[.int .i64 0, .int .i64 0, .bool false, .int .u8 0]) := ⟨Try.zeroValue8⟩
instance : Inf Try.prog 8 4 24 (.agg #[.int .i64 0, .int .i64 0, .bool false, .int .u8 0]) := ⟨inf_of (by kernel_rfl)⟩
instance : Plc Try.prog 8 [(0, 1), (1, 1), (2, 1), (3, 1)] := ⟨⟨_, Try.runUnderlying8, fun w => by simp [Try.sizeOf2, Try.sizeOf3, Try.sizeOf4, Try.sizeOf6]⟩⟩
instance : Fld Try.prog 8 0 0 := ⟨fun w a => by simp [Instr.fieldAt, Instr.sureAddr, fieldPlace, Try.runUnderlying8, Try.sizeOf2]⟩
instance : Fld Try.prog 8 1 1 := ⟨fun w a => by simp [Instr.fieldAt, Instr.sureAddr, fieldPlace, Try.runUnderlying8, Try.sizeOf3]⟩
instance : Fld Try.prog 8 2 2 := ⟨fun w a => by simp [Instr.fieldAt, Instr.sureAddr, fieldPlace, Try.runUnderlying8, Try.sizeOf4]⟩
instance : Fld Try.prog 8 3 3 := ⟨fun w a => by simp [Instr.fieldAt, Instr.sureAddr, fieldPlace, Try.runUnderlying8, Try.sizeOf6]⟩
instance : Und Try.prog 9 .string := ⟨Try.underlying9⟩
instance : Cel Try.prog 9 1 := ⟨by kernel_rfl⟩
instance : Siz Try.prog 9 1 := ⟨Try.sizeOf9⟩
instance : Agg Try.prog 9 false := ⟨Try.isAgg9⟩
instance : Zer Try.prog 9 (.string ⟨#[]⟩) := ⟨Try.zeroValue9⟩
instance : Inf Try.prog 9 1 16 (.string ⟨#[]⟩) := ⟨inf_of (by kernel_rfl)⟩
instance : Und Try.prog 10 .string := ⟨Try.underlying10⟩
instance : Cel Try.prog 10 1 := ⟨by kernel_rfl⟩
instance : Siz Try.prog 10 1 := ⟨Try.sizeOf10⟩
instance : Agg Try.prog 10 false := ⟨Try.isAgg10⟩
instance : Zer Try.prog 10 (.string ⟨#[]⟩) := ⟨Try.zeroValue10⟩
instance : Inf Try.prog 10 1 16 (.string ⟨#[]⟩) := ⟨inf_of (by kernel_rfl)⟩
instance : Und Try.prog 11 .string := ⟨Try.underlying11⟩
instance : Cel Try.prog 11 1 := ⟨by kernel_rfl⟩
instance : Siz Try.prog 11 1 := ⟨Try.sizeOf11⟩
instance : Agg Try.prog 11 false := ⟨Try.isAgg11⟩
instance : Zer Try.prog 11 (.string ⟨#[]⟩) := ⟨Try.zeroValue11⟩
instance : Inf Try.prog 11 1 16 (.string ⟨#[]⟩) := ⟨inf_of (by kernel_rfl)⟩
instance : Und Try.prog 12 (.int .u64) := ⟨Try.underlying12⟩
instance : Cel Try.prog 12 1 := ⟨by kernel_rfl⟩
instance : Siz Try.prog 12 1 := ⟨Try.sizeOf12⟩
instance : Agg Try.prog 12 false := ⟨Try.isAgg12⟩
instance : Zer Try.prog 12 (.int .u64 0) := ⟨Try.zeroValue12⟩
instance : Inf Try.prog 12 1 8 (.int .u64 0) := ⟨inf_of (by kernel_rfl)⟩
instance : Cel Try.prog 13 2 := ⟨by kernel_rfl⟩
instance : Siz Try.prog 13 2 := ⟨Try.sizeOf13⟩
instance : Agg Try.prog 13 true := ⟨Try.isAgg13⟩
instance : Zer Try.prog 13 (.agg #[.string ⟨#[]⟩, .int .u64 0]) := ⟨Try.zeroValue13⟩
instance : Inf Try.prog 13 2 24 (.agg #[.string ⟨#[]⟩, .int .u64 0]) := ⟨inf_of (by kernel_rfl)⟩
instance : Plc Try.prog 13 [(0, 1), (1, 1)] := ⟨⟨_, Try.runUnderlying13, fun w => by simp [Try.sizeOf12, Try.sizeOf9]⟩⟩
instance : Fld Try.prog 13 0 0 := ⟨fun w a => by simp [Instr.fieldAt, Instr.sureAddr, fieldPlace, Try.runUnderlying13, Try.sizeOf9]⟩
instance : Fld Try.prog 13 1 1 := ⟨fun w a => by simp [Instr.fieldAt, Instr.sureAddr, fieldPlace, Try.runUnderlying13, Try.sizeOf12]⟩
instance : Cel Try.prog 14 2 := ⟨by kernel_rfl⟩
instance : Siz Try.prog 14 2 := ⟨Try.sizeOf14⟩
instance : Agg Try.prog 14 true := ⟨Try.isAgg14⟩
instance : Zer Try.prog 14 (.agg #[.string ⟨#[]⟩, .int .u64 0]) := ⟨Try.zeroValue14⟩
instance : Inf Try.prog 14 2 24 (.agg #[.string ⟨#[]⟩, .int .u64 0]) := ⟨inf_of (by kernel_rfl)⟩
instance : Plc Try.prog 14 [(0, 1), (1, 1)] := ⟨⟨_, Try.runUnderlying14, fun w => by simp [Try.sizeOf12, Try.sizeOf9]⟩⟩
instance : Fld Try.prog 14 0 0 := ⟨fun w a => by simp [Instr.fieldAt, Instr.sureAddr, fieldPlace, Try.runUnderlying14, Try.sizeOf9]⟩
instance : Fld Try.prog 14 1 1 := ⟨fun w a => by simp [Instr.fieldAt, Instr.sureAddr, fieldPlace, Try.runUnderlying14, Try.sizeOf12]⟩
instance : Und Try.prog 15 (.pointer 61) := ⟨Try.underlying15⟩
instance : Cel Try.prog 15 1 := ⟨by kernel_rfl⟩
instance : Siz Try.prog 15 1 := ⟨Try.sizeOf15⟩
instance : Agg Try.prog 15 false := ⟨Try.isAgg15⟩
instance : Zer Try.prog 15 (.pointer none) := ⟨Try.zeroValue15⟩
instance : Inf Try.prog 15 1 8 (.pointer none) := ⟨inf_of (by kernel_rfl)⟩
instance : Und Try.prog 16 (.pointer 64) := ⟨Try.underlying16⟩
instance : Cel Try.prog 16 1 := ⟨by kernel_rfl⟩
instance : Siz Try.prog 16 1 := ⟨Try.sizeOf16⟩
instance : Agg Try.prog 16 false := ⟨Try.isAgg16⟩
instance : Zer Try.prog 16 (.pointer none) := ⟨Try.zeroValue16⟩
instance : Inf Try.prog 16 1 8 (.pointer none) := ⟨inf_of (by kernel_rfl)⟩
instance : Und Try.prog 17 (.pointer 73) := ⟨Try.underlying17⟩
instance : Cel Try.prog 17 1 := ⟨by kernel_rfl⟩
instance : Siz Try.prog 17 1 := ⟨Try.sizeOf17⟩
instance : Agg Try.prog 17 false := ⟨Try.isAgg17⟩
instance : Zer Try.prog 17 (.pointer none) := ⟨Try.zeroValue17⟩
instance : Inf Try.prog 17 1 8 (.pointer none) := ⟨inf_of (by kernel_rfl)⟩
instance : Cel Try.prog 18 1 := ⟨by kernel_rfl⟩
instance : Siz Try.prog 18 1 := ⟨Try.sizeOf18⟩
instance : Agg Try.prog 18 true := ⟨Try.isAgg18⟩
instance : Zer Try.prog 18 (.agg #[.pointer none]) := ⟨Try.zeroValue18⟩
instance : Inf Try.prog 18 1 8 (.agg #[.pointer none]) := ⟨inf_of (by kernel_rfl)⟩
instance : Plc Try.prog 18 [(0, 1)] := ⟨⟨_, Try.runUnderlying18, fun w => by simp [Try.sizeOf17]⟩⟩
instance : Fld Try.prog 18 0 0 := ⟨fun w a => by simp [Instr.fieldAt, Instr.sureAddr, fieldPlace, Try.runUnderlying18, Try.sizeOf17]⟩
instance : Cel Try.prog 19 1 := ⟨by kernel_rfl⟩
instance : Siz Try.prog 19 1 := ⟨Try.sizeOf19⟩
instance : Agg Try.prog 19 true := ⟨Try.isAgg19⟩
instance : Zer Try.prog 19 (.agg #[.pointer none]) := ⟨Try.zeroValue19⟩
instance : Inf Try.prog 19 1 8 (.agg #[.pointer none]) := ⟨inf_of (by kernel_rfl)⟩
instance : Plc Try.prog 19 [(0, 1)] := ⟨⟨_, Try.runUnderlying19, fun w => by simp [Try.sizeOf17]⟩⟩
instance : Fld Try.prog 19 0 0 := ⟨fun w a => by simp [Instr.fieldAt, Instr.sureAddr, fieldPlace, Try.runUnderlying19, Try.sizeOf17]⟩
instance : Cel Try.prog 20 1 := ⟨by kernel_rfl⟩
instance : Siz Try.prog 20 1 := ⟨Try.sizeOf20⟩
instance : Agg Try.prog 20 false := ⟨Try.isAgg20⟩
instance : Zer Try.prog 20 (.nilIface) := ⟨Try.zeroValue20⟩
instance : Inf Try.prog 20 1 16 (.nilIface) := ⟨inf_of (by kernel_rfl)⟩
instance : Und Try.prog 21 (.int .i32) := ⟨Try.underlying21⟩
instance : Cel Try.prog 21 1 := ⟨by kernel_rfl⟩
instance : Siz Try.prog 21 1 := ⟨Try.sizeOf21⟩
instance : Agg Try.prog 21 false := ⟨Try.isAgg21⟩
instance : Zer Try.prog 21 (.int .i32 0) := ⟨Try.zeroValue21⟩
instance : Inf Try.prog 21 1 4 (.int .i32 0) := ⟨inf_of (by kernel_rfl)⟩
instance : Und Try.prog 22 (.slice 30) := ⟨Try.underlying22⟩
instance : Cel Try.prog 22 1 := ⟨by kernel_rfl⟩
instance : Siz Try.prog 22 1 := ⟨Try.sizeOf22⟩
instance : Agg Try.prog 22 false := ⟨Try.isAgg22⟩
instance : Zer Try.prog 22 (.slice none 0 0) := ⟨Try.zeroValue22⟩
instance : Inf Try.prog 22 1 24 (.slice none 0 0) := ⟨inf_of (by kernel_rfl)⟩
instance : Cel Try.prog 23 1 := ⟨by kernel_rfl⟩
instance : Siz Try.prog 23 1 := ⟨Try.sizeOf23⟩
instance : Agg Try.prog 23 false := ⟨Try.isAgg23⟩
instance : Zer Try.prog 23 (.nilFunc) := ⟨Try.zeroValue23⟩
instance : Inf Try.prog 23 1 8 (.nilFunc) := ⟨inf_of (by kernel_rfl)⟩
instance : Und Try.prog 24 (.int .i64) := ⟨Try.underlying24⟩
instance : Cel Try.prog 24 1 := ⟨by kernel_rfl⟩
instance : Siz Try.prog 24 1 := ⟨Try.sizeOf24⟩
instance : Agg Try.prog 24 false := ⟨Try.isAgg24⟩
instance : Zer Try.prog 24 (.int .i64 0) := ⟨Try.zeroValue24⟩
instance : Inf Try.prog 24 1 8 (.int .i64 0) := ⟨inf_of (by kernel_rfl)⟩
instance : Cel Try.prog 25 1 := ⟨by kernel_rfl⟩
instance : Siz Try.prog 25 1 := ⟨Try.sizeOf25⟩
instance : Cel Try.prog 26 1 := ⟨by kernel_rfl⟩
instance : Siz Try.prog 26 1 := ⟨Try.sizeOf26⟩
instance : Agg Try.prog 26 false := ⟨Try.isAgg26⟩
instance : Zer Try.prog 26 (.nilFunc) := ⟨Try.zeroValue26⟩
instance : Inf Try.prog 26 1 8 (.nilFunc) := ⟨inf_of (by kernel_rfl)⟩
instance : Cel Try.prog 27 1 := ⟨by kernel_rfl⟩
instance : Siz Try.prog 27 1 := ⟨Try.sizeOf27⟩
instance : Cel Try.prog 28 1 := ⟨by kernel_rfl⟩
instance : Siz Try.prog 28 1 := ⟨Try.sizeOf28⟩
instance : Agg Try.prog 28 false := ⟨Try.isAgg28⟩
instance : Zer Try.prog 28 (.nilFunc) := ⟨Try.zeroValue28⟩
instance : Inf Try.prog 28 1 8 (.nilFunc) := ⟨inf_of (by kernel_rfl)⟩
instance : Cel Try.prog 29 3 := ⟨by kernel_rfl⟩
instance : Siz Try.prog 29 3 := ⟨Try.sizeOf29⟩
instance : Agg Try.prog 29 true := ⟨Try.isAgg29⟩
instance : Zer Try.prog 29 (.agg #[.int .i64 0, .int .i64 0, .string ⟨#[]⟩]) := ⟨Try.zeroValue29⟩
instance : Inf Try.prog 29 3 32 (.agg #[.int .i64 0, .int .i64 0, .string ⟨#[]⟩]) := ⟨inf_of (by kernel_rfl)⟩
instance : Plc Try.prog 29 [(0, 1), (1, 1), (2, 1)] := ⟨⟨_, Try.runUnderlying29, fun w => by simp [Try.sizeOf2, Try.sizeOf3, Try.sizeOf9]⟩⟩
instance : Fld Try.prog 29 0 0 := ⟨fun w a => by simp [Instr.fieldAt, Instr.sureAddr, fieldPlace, Try.runUnderlying29, Try.sizeOf3]⟩
instance : Fld Try.prog 29 1 1 := ⟨fun w a => by simp [Instr.fieldAt, Instr.sureAddr, fieldPlace, Try.runUnderlying29, Try.sizeOf2]⟩
instance : Fld Try.prog 29 2 2 := ⟨fun w a => by simp [Instr.fieldAt, Instr.sureAddr, fieldPlace, Try.runUnderlying29, Try.sizeOf9]⟩
instance : Cel Try.prog 30 3 := ⟨by kernel_rfl⟩
instance : Siz Try.prog 30 3 := ⟨Try.sizeOf30⟩
instance : Agg Try.prog 30 true := ⟨Try.isAgg30⟩
instance : Zer Try.prog 30 (.agg #[.int .i64 0, .int .i64 0, .string ⟨#[]⟩]) := ⟨Try.zeroValue30⟩
instance : Inf Try.prog 30 3 32 (.agg #[.int .i64 0, .int .i64 0, .string ⟨#[]⟩]) := ⟨inf_of (by kernel_rfl)⟩
instance : Plc Try.prog 30 [(0, 1), (1, 1), (2, 1)] := ⟨⟨_, Try.runUnderlying30, fun w => by simp [Try.sizeOf2, Try.sizeOf3, Try.sizeOf9]⟩⟩
instance : Fld Try.prog 30 0 0 := ⟨fun w a => by simp [Instr.fieldAt, Instr.sureAddr, fieldPlace, Try.runUnderlying30, Try.sizeOf3]⟩
instance : Fld Try.prog 30 1 1 := ⟨fun w a => by simp [Instr.fieldAt, Instr.sureAddr, fieldPlace, Try.runUnderlying30, Try.sizeOf2]⟩
instance : Fld Try.prog 30 2 2 := ⟨fun w a => by simp [Instr.fieldAt, Instr.sureAddr, fieldPlace, Try.runUnderlying30, Try.sizeOf9]⟩
instance : Cel Try.prog 31 1 := ⟨by kernel_rfl⟩
instance : Siz Try.prog 31 1 := ⟨Try.sizeOf31⟩
instance : Agg Try.prog 31 false := ⟨Try.isAgg31⟩
instance : Zer Try.prog 31 (.nilFunc) := ⟨Try.zeroValue31⟩
instance : Inf Try.prog 31 1 8 (.nilFunc) := ⟨inf_of (by kernel_rfl)⟩
instance : Cel Try.prog 32 1 := ⟨by kernel_rfl⟩
instance : Siz Try.prog 32 1 := ⟨Try.sizeOf32⟩
instance : Agg Try.prog 32 false := ⟨Try.isAgg32⟩
instance : Zer Try.prog 32 (.nilFunc) := ⟨Try.zeroValue32⟩
instance : Inf Try.prog 32 1 8 (.nilFunc) := ⟨inf_of (by kernel_rfl)⟩
instance : Cel Try.prog 33 1 := ⟨by kernel_rfl⟩
instance : Siz Try.prog 33 1 := ⟨Try.sizeOf33⟩
instance : Agg Try.prog 33 false := ⟨Try.isAgg33⟩
instance : Zer Try.prog 33 (.nilFunc) := ⟨Try.zeroValue33⟩
instance : Inf Try.prog 33 1 8 (.nilFunc) := ⟨inf_of (by kernel_rfl)⟩
instance : Cel Try.prog 34 1 := ⟨by kernel_rfl⟩
instance : Siz Try.prog 34 1 := ⟨Try.sizeOf34⟩
instance : Agg Try.prog 34 false := ⟨Try.isAgg34⟩
instance : Zer Try.prog 34 (.nilFunc) := ⟨Try.zeroValue34⟩
instance : Inf Try.prog 34 1 8 (.nilFunc) := ⟨inf_of (by kernel_rfl)⟩
instance : Cel Try.prog 35 1 := ⟨by kernel_rfl⟩
instance : Siz Try.prog 35 1 := ⟨Try.sizeOf35⟩
instance : Agg Try.prog 35 false := ⟨Try.isAgg35⟩
instance : Zer Try.prog 35 (.nilFunc) := ⟨Try.zeroValue35⟩
instance : Inf Try.prog 35 1 8 (.nilFunc) := ⟨inf_of (by kernel_rfl)⟩
instance : Cel Try.prog 36 1 := ⟨by kernel_rfl⟩
instance : Siz Try.prog 36 1 := ⟨Try.sizeOf36⟩
instance : Agg Try.prog 36 false := ⟨Try.isAgg36⟩
instance : Zer Try.prog 36 (.nilFunc) := ⟨Try.zeroValue36⟩
instance : Inf Try.prog 36 1 8 (.nilFunc) := ⟨inf_of (by kernel_rfl)⟩
instance : Cel Try.prog 37 1 := ⟨by kernel_rfl⟩
instance : Siz Try.prog 37 1 := ⟨Try.sizeOf37⟩
instance : Agg Try.prog 37 false := ⟨Try.isAgg37⟩
instance : Zer Try.prog 37 (.nilFunc) := ⟨Try.zeroValue37⟩
instance : Inf Try.prog 37 1 8 (.nilFunc) := ⟨inf_of (by kernel_rfl)⟩
instance : Cel Try.prog 38 1 := ⟨by kernel_rfl⟩
instance : Siz Try.prog 38 1 := ⟨Try.sizeOf38⟩
instance : Cel Try.prog 39 1 := ⟨by kernel_rfl⟩
instance : Siz Try.prog 39 1 := ⟨Try.sizeOf39⟩
instance : Agg Try.prog 39 false := ⟨Try.isAgg39⟩
instance : Zer Try.prog 39 (.nilFunc) := ⟨Try.zeroValue39⟩
instance : Inf Try.prog 39 1 8 (.nilFunc) := ⟨inf_of (by kernel_rfl)⟩
instance : Cel Try.prog 40 1 := ⟨by kernel_rfl⟩
instance : Siz Try.prog 40 1 := ⟨Try.sizeOf40⟩
instance : Agg Try.prog 40 false := ⟨Try.isAgg40⟩
instance : Zer Try.prog 40 (.nilFunc) := ⟨Try.zeroValue40⟩
instance : Inf Try.prog 40 1 8 (.nilFunc) := ⟨inf_of (by kernel_rfl)⟩
instance : Cel Try.prog 41 1 := ⟨by kernel_rfl⟩
instance : Siz Try.prog 41 1 := ⟨Try.sizeOf41⟩
instance : Agg Try.prog 41 false := ⟨Try.isAgg41⟩
instance : Zer Try.prog 41 (.nilFunc) := ⟨Try.zeroValue41⟩
instance : Inf Try.prog 41 1 8 (.nilFunc) := ⟨inf_of (by kernel_rfl)⟩
instance : Cel Try.prog 42 1 := ⟨by kernel_rfl⟩
instance : Siz Try.prog 42 1 := ⟨Try.sizeOf42⟩
instance : Agg Try.prog 42 false := ⟨Try.isAgg42⟩
instance : Zer Try.prog 42 (.nilFunc) := ⟨Try.zeroValue42⟩
instance : Inf Try.prog 42 1 8 (.nilFunc) := ⟨inf_of (by kernel_rfl)⟩
instance : Cel Try.prog 43 1 := ⟨by kernel_rfl⟩
instance : Siz Try.prog 43 1 := ⟨Try.sizeOf43⟩
instance : Agg Try.prog 43 false := ⟨Try.isAgg43⟩
instance : Zer Try.prog 43 (.nilFunc) := ⟨Try.zeroValue43⟩
instance : Inf Try.prog 43 1 8 (.nilFunc) := ⟨inf_of (by kernel_rfl)⟩
instance : Und Try.prog 44 (.slice 3) := ⟨Try.underlying44⟩
instance : Cel Try.prog 44 1 := ⟨by kernel_rfl⟩
instance : Siz Try.prog 44 1 := ⟨Try.sizeOf44⟩
instance : Agg Try.prog 44 false := ⟨Try.isAgg44⟩
instance : Zer Try.prog 44 (.slice none 0 0) := ⟨Try.zeroValue44⟩
instance : Inf Try.prog 44 1 24 (.slice none 0 0) := ⟨inf_of (by kernel_rfl)⟩
instance : Cel Try.prog 45 1 := ⟨by kernel_rfl⟩
instance : Siz Try.prog 45 1 := ⟨Try.sizeOf45⟩
instance : Agg Try.prog 45 false := ⟨Try.isAgg45⟩
instance : Zer Try.prog 45 (.nilFunc) := ⟨Try.zeroValue45⟩
instance : Inf Try.prog 45 1 8 (.nilFunc) := ⟨inf_of (by kernel_rfl)⟩
instance : Cel Try.prog 46 1 := ⟨by kernel_rfl⟩
instance : Siz Try.prog 46 1 := ⟨Try.sizeOf46⟩
instance : Agg Try.prog 46 false := ⟨Try.isAgg46⟩
instance : Zer Try.prog 46 (.nilFunc) := ⟨Try.zeroValue46⟩
instance : Inf Try.prog 46 1 8 (.nilFunc) := ⟨inf_of (by kernel_rfl)⟩
instance : Cel Try.prog 47 1 := ⟨by kernel_rfl⟩
instance : Siz Try.prog 47 1 := ⟨Try.sizeOf47⟩
instance : Agg Try.prog 47 false := ⟨Try.isAgg47⟩
instance : Zer Try.prog 47 (.nilFunc) := ⟨Try.zeroValue47⟩
instance : Inf Try.prog 47 1 8 (.nilFunc) := ⟨inf_of (by kernel_rfl)⟩
instance : Cel Try.prog 48 1 := ⟨by kernel_rfl⟩
instance : Siz Try.prog 48 1 := ⟨Try.sizeOf48⟩
instance : Agg Try.prog 48 false := ⟨Try.isAgg48⟩
instance : Zer Try.prog 48 (.nilFunc) := ⟨Try.zeroValue48⟩
instance : Inf Try.prog 48 1 8 (.nilFunc) := ⟨inf_of (by kernel_rfl)⟩
instance : Und Try.prog 49 (.int .u64) := ⟨Try.underlying49⟩
instance : Cel Try.prog 49 1 := ⟨by kernel_rfl⟩
instance : Siz Try.prog 49 1 := ⟨Try.sizeOf49⟩
instance : Agg Try.prog 49 false := ⟨Try.isAgg49⟩
instance : Zer Try.prog 49 (.int .u64 0) := ⟨Try.zeroValue49⟩
instance : Inf Try.prog 49 1 8 (.int .u64 0) := ⟨inf_of (by kernel_rfl)⟩
instance : Cel Try.prog 50 1 := ⟨by kernel_rfl⟩
instance : Siz Try.prog 50 1 := ⟨Try.sizeOf50⟩
instance : Agg Try.prog 50 false := ⟨Try.isAgg50⟩
instance : Zer Try.prog 50 (.nilFunc) := ⟨Try.zeroValue50⟩
instance : Inf Try.prog 50 1 8 (.nilFunc) := ⟨inf_of (by kernel_rfl)⟩
instance : Und Try.prog 51 (.slice 9) := ⟨Try.underlying51⟩
instance : Cel Try.prog 51 1 := ⟨by kernel_rfl⟩
instance : Siz Try.prog 51 1 := ⟨Try.sizeOf51⟩
instance : Agg Try.prog 51 false := ⟨Try.isAgg51⟩
instance : Zer Try.prog 51 (.slice none 0 0) := ⟨Try.zeroValue51⟩
instance : Inf Try.prog 51 1 24 (.slice none 0 0) := ⟨inf_of (by kernel_rfl)⟩
instance : Cel Try.prog 52 1 := ⟨by kernel_rfl⟩
instance : Siz Try.prog 52 1 := ⟨Try.sizeOf52⟩
instance : Agg Try.prog 52 false := ⟨Try.isAgg52⟩
instance : Zer Try.prog 52 (.nilFunc) := ⟨Try.zeroValue52⟩
instance : Inf Try.prog 52 1 8 (.nilFunc) := ⟨inf_of (by kernel_rfl)⟩
instance : Cel Try.prog 53 1 := ⟨by kernel_rfl⟩
instance : Siz Try.prog 53 1 := ⟨Try.sizeOf53⟩
instance : Agg Try.prog 53 false := ⟨Try.isAgg53⟩
instance : Zer Try.prog 53 (.nilFunc) := ⟨Try.zeroValue53⟩
instance : Inf Try.prog 53 1 8 (.nilFunc) := ⟨inf_of (by kernel_rfl)⟩
instance : Und Try.prog 54 (.int .u32) := ⟨Try.underlying54⟩
instance : Cel Try.prog 54 1 := ⟨by kernel_rfl⟩
instance : Siz Try.prog 54 1 := ⟨Try.sizeOf54⟩
instance : Agg Try.prog 54 false := ⟨Try.isAgg54⟩
instance : Zer Try.prog 54 (.int .u32 0) := ⟨Try.zeroValue54⟩
instance : Inf Try.prog 54 1 4 (.int .u32 0) := ⟨inf_of (by kernel_rfl)⟩
instance : Cel Try.prog 55 1 := ⟨by kernel_rfl⟩
instance : Siz Try.prog 55 1 := ⟨Try.sizeOf55⟩
instance : Cel Try.prog 56 1 := ⟨by kernel_rfl⟩
instance : Siz Try.prog 56 1 := ⟨Try.sizeOf56⟩
instance : Agg Try.prog 56 false := ⟨Try.isAgg56⟩
instance : Zer Try.prog 56 (.nilFunc) := ⟨Try.zeroValue56⟩
instance : Inf Try.prog 56 1 8 (.nilFunc) := ⟨inf_of (by kernel_rfl)⟩
instance : Cel Try.prog 57 1 := ⟨by kernel_rfl⟩
instance : Siz Try.prog 57 1 := ⟨Try.sizeOf57⟩
instance : Agg Try.prog 57 false := ⟨Try.isAgg57⟩
instance : Zer Try.prog 57 (.nilFunc) := ⟨Try.zeroValue57⟩
instance : Inf Try.prog 57 1 8 (.nilFunc) := ⟨inf_of (by kernel_rfl)⟩
instance : Und Try.prog 58 (.slice 5) := ⟨Try.underlying58⟩
instance : Cel Try.prog 58 1 := ⟨by kernel_rfl⟩
instance : Siz Try.prog 58 1 := ⟨Try.sizeOf58⟩
instance : Agg Try.prog 58 false := ⟨Try.isAgg58⟩
instance : Zer Try.prog 58 (.slice none 0 0) := ⟨Try.zeroValue58⟩
instance : Inf Try.prog 58 1 24 (.slice none 0 0) := ⟨inf_of (by kernel_rfl)⟩
instance : Cel Try.prog 59 1 := ⟨by kernel_rfl⟩
instance : Siz Try.prog 59 1 := ⟨Try.sizeOf59⟩
instance : Agg Try.prog 59 false := ⟨Try.isAgg59⟩
instance : Zer Try.prog 59 (.nilFunc) := ⟨Try.zeroValue59⟩
instance : Inf Try.prog 59 1 8 (.nilFunc) := ⟨inf_of (by kernel_rfl)⟩
instance : Cel Try.prog 60 4 := ⟨by kernel_rfl⟩
instance : Siz Try.prog 60 4 := ⟨Try.sizeOf60⟩
instance : Agg Try.prog 60 true := ⟨Try.isAgg60⟩
instance : Zer Try.prog 60 (.agg #[.pointer none, .pointer none, .pointer none, .string ⟨#[]⟩]) := ⟨Try.zeroValue60⟩
instance : Inf Try.prog 60 4 40 (.agg #[.pointer none, .pointer none, .pointer none, .string ⟨#[]⟩]) := ⟨inf_of (by kernel_rfl)⟩
instance : Plc Try.prog 60 [(0, 1), (1, 1), (2, 1), (3, 1)] := ⟨⟨_, Try.runUnderlying60, fun w => by simp [Try.sizeOf17, Try.sizeOf9]⟩⟩
instance : Fld Try.prog 60 0 0 := ⟨fun w a => by simp [Instr.fieldAt, Instr.sureAddr, fieldPlace, Try.runUnderlying60, Try.sizeOf17]⟩
instance : Fld Try.prog 60 1 1 := ⟨fun w a => by simp [Instr.fieldAt, Instr.sureAddr, fieldPlace, Try.runUnderlying60, Try.sizeOf17]⟩
instance : Fld Try.prog 60 2 2 := ⟨fun w a => by simp [Instr.fieldAt, Instr.sureAddr, fieldPlace, Try.runUnderlying60, Try.sizeOf17]⟩
instance : Fld Try.prog 60 3 3 := ⟨fun w a => by simp [Instr.fieldAt, Instr.sureAddr, fieldPlace, Try.runUnderlying60, Try.sizeOf9]⟩
instance : Cel Try.prog 61 4 := ⟨by kernel_rfl⟩
instance : Siz Try.prog 61 4 := ⟨Try.sizeOf61⟩
instance : Agg Try.prog 61 true := ⟨Try.isAgg61⟩
instance : Zer Try.prog 61 (.agg #[.pointer none, .pointer none, .pointer none, .string ⟨#[]⟩]) := ⟨Try.zeroValue61⟩
instance : Inf Try.prog 61 4 40 (.agg #[.pointer none, .pointer none, .pointer none, .string ⟨#[]⟩]) := ⟨inf_of (by kernel_rfl)⟩
instance : Plc Try.prog 61 [(0, 1), (1, 1), (2, 1), (3, 1)] := ⟨⟨_, Try.runUnderlying61, fun w => by simp [Try.sizeOf17, Try.sizeOf9]⟩⟩
instance : Fld Try.prog 61 0 0 := ⟨fun w a => by simp [Instr.fieldAt, Instr.sureAddr, fieldPlace, Try.runUnderlying61, Try.sizeOf17]⟩
instance : Fld Try.prog 61 1 1 := ⟨fun w a => by simp [Instr.fieldAt, Instr.sureAddr, fieldPlace, Try.runUnderlying61, Try.sizeOf17]⟩
instance : Fld Try.prog 61 2 2 := ⟨fun w a => by simp [Instr.fieldAt, Instr.sureAddr, fieldPlace, Try.runUnderlying61, Try.sizeOf17]⟩
instance : Fld Try.prog 61 3 3 := ⟨fun w a => by simp [Instr.fieldAt, Instr.sureAddr, fieldPlace, Try.runUnderlying61, Try.sizeOf9]⟩
instance : Und Try.prog 62 (.array 0 16) := ⟨Try.underlying62⟩
instance : Cel Try.prog 62 0 := ⟨by kernel_rfl⟩
instance : Siz Try.prog 62 0 := ⟨Try.sizeOf62⟩
instance : Agg Try.prog 62 true := ⟨Try.isAgg62⟩
instance : Zer Try.prog 62 (.agg #[]) := ⟨Try.zeroValue62⟩
instance : Inf Try.prog 62 0 0 (.agg #[]) := ⟨inf_of (by kernel_rfl)⟩
instance : Cel Try.prog 63 0 := ⟨by kernel_rfl⟩
instance : Siz Try.prog 63 0 := ⟨Try.sizeOf63⟩
instance : Agg Try.prog 63 true := ⟨Try.isAgg63⟩
instance : Zer Try.prog 63 (.agg #[]) := ⟨Try.zeroValue63⟩
instance : Inf Try.prog 63 0 0 (.agg #[]) := ⟨inf_of (by kernel_rfl)⟩
instance : Plc Try.prog 63 [(0, 0)] := ⟨⟨_, Try.runUnderlying63, fun w => by simp [Try.sizeOf62]⟩⟩
instance : Cel Try.prog 64 0 := ⟨by kernel_rfl⟩
instance : Siz Try.prog 64 0 := ⟨Try.sizeOf64⟩
instance : Agg Try.prog 64 true := ⟨Try.isAgg64⟩
instance : Zer Try.prog 64 (.agg #[]) := ⟨Try.zeroValue64⟩
instance : Inf Try.prog 64 0 0 (.agg #[]) := ⟨inf_of (by kernel_rfl)⟩
instance : Plc Try.prog 64 [(0, 0)] := ⟨⟨_, Try.runUnderlying64, fun w => by simp [Try.sizeOf62]⟩⟩
instance : Cel Try.prog 65 1 := ⟨by kernel_rfl⟩
instance : Siz Try.prog 65 1 := ⟨Try.sizeOf65⟩
instance : Agg Try.prog 65 false := ⟨Try.isAgg65⟩
instance : Zer Try.prog 65 (.nilFunc) := ⟨Try.zeroValue65⟩
instance : Inf Try.prog 65 1 8 (.nilFunc) := ⟨inf_of (by kernel_rfl)⟩
instance : Und Try.prog 66 (.int .u8) := ⟨Try.underlying66⟩
instance : Cel Try.prog 66 1 := ⟨by kernel_rfl⟩
instance : Siz Try.prog 66 1 := ⟨Try.sizeOf66⟩
instance : Agg Try.prog 66 false := ⟨Try.isAgg66⟩
instance : Zer Try.prog 66 (.int .u8 0) := ⟨Try.zeroValue66⟩
instance : Inf Try.prog 66 1 1 (.int .u8 0) := ⟨inf_of (by kernel_rfl)⟩
instance : Und Try.prog 67 (.int .u8) := ⟨Try.underlying67⟩
instance : Cel Try.prog 67 1 := ⟨by kernel_rfl⟩
instance : Siz Try.prog 67 1 := ⟨Try.sizeOf67⟩
instance : Agg Try.prog 67 false := ⟨Try.isAgg67⟩
instance : Zer Try.prog 67 (.int .u8 0) := ⟨Try.zeroValue67⟩
instance : Inf Try.prog 67 1 1 (.int .u8 0) := ⟨inf_of (by kernel_rfl)⟩
instance : Cel Try.prog 68 1 := ⟨by kernel_rfl⟩
instance : Siz Try.prog 68 1 := ⟨Try.sizeOf68⟩
instance : Agg Try.prog 68 false := ⟨Try.isAgg68⟩
instance : Zer Try.prog 68 (.nilFunc) := ⟨Try.zeroValue68⟩
instance : Inf Try.prog 68 1 8 (.nilFunc) := ⟨inf_of (by kernel_rfl)⟩
instance : Und Try.prog 69 (.pointer 5) := ⟨Try.underlying69⟩
instance : Cel Try.prog 69 1 := ⟨by kernel_rfl⟩
instance : Siz Try.prog 69 1 := ⟨Try.sizeOf69⟩
instance : Agg Try.prog 69 false := ⟨Try.isAgg69⟩
instance : Zer Try.prog 69 (.pointer none) := ⟨Try.zeroValue69⟩
instance : Inf Try.prog 69 1 8 (.pointer none) := ⟨inf_of (by kernel_rfl)⟩
instance : Und Try.prog 70 (.int .i32) := ⟨Try.underlying70⟩
instance : Cel Try.prog 70 1 := ⟨by kernel_rfl⟩
instance : Siz Try.prog 70 1 := ⟨Try.sizeOf70⟩
instance : Agg Try.prog 70 false := ⟨Try.isAgg70⟩
instance : Zer Try.prog 70 (.int .i32 0) := ⟨Try.zeroValue70⟩
instance : Inf Try.prog 70 1 4 (.int .i32 0) := ⟨inf_of (by kernel_rfl)⟩
instance : Und Try.prog 71 (.int .i32) := ⟨Try.underlying71⟩
instance : Cel Try.prog 71 1 := ⟨by kernel_rfl⟩
instance : Siz Try.prog 71 1 := ⟨Try.sizeOf71⟩
instance : Agg Try.prog 71 false := ⟨Try.isAgg71⟩
instance : Zer Try.prog 71 (.int .i32 0) := ⟨Try.zeroValue71⟩
instance : Inf Try.prog 71 1 4 (.int .i32 0) := ⟨inf_of (by kernel_rfl)⟩
instance : Cel Try.prog 72 11 := ⟨by kernel_rfl⟩
instance : Siz Try.prog 72 11 := ⟨Try.sizeOf72⟩
instance : Agg Try.prog 72 true := ⟨Try.isAgg72⟩
instance : Zer Try.prog 72 (.agg #[.int .u64 0, .int .u64 0, .int .u32 0, .int .u8 0, .int .u8 0, .int .u8 0, .int .u8 0, .nilFunc, .pointer none, .int .i32 0, .int .i32 0]) := ⟨Try.zeroValue72⟩
instance : Inf Try.prog 72 11 48 (.agg #[.int .u64 0, .int .u64 0, .int .u32 0, .int .u8 0, .int .u8 0, .int .u8 0, .int .u8 0, .nilFunc, .pointer none, .int .i32 0, .int .i32 0]) := ⟨inf_of (by kernel_rfl)⟩
instance : Plc Try.prog 72 [(0, 1), (1, 1), (2, 1), (3, 1), (4, 1), (5, 1), (6, 1), (7, 1), (8, 1), (9, 1), (10, 1)] := ⟨⟨_, Try.runUnderlying72, fun w => by simp [Try.sizeOf12, Try.sizeOf5, Try.sizeOf54, Try.sizeOf66, Try.sizeOf67, Try.sizeOf68, Try.sizeOf69, Try.sizeOf70, Try.sizeOf71]⟩⟩
instance : Fld Try.prog 72 0 0 := ⟨fun w a => by simp [Instr.fieldAt, Instr.sureAddr, fieldPlace, Try.runUnderlying72, Try.sizeOf12]⟩
instance : Fld Try.prog 72 1 1 := ⟨fun w a => by simp [Instr.fieldAt, Instr.sureAddr, fieldPlace, Try.runUnderlying72, Try.sizeOf12]⟩
instance : Fld Try.prog 72 2 2 := ⟨fun w a => by simp [Instr.fieldAt, Instr.sureAddr, fieldPlace, Try.runUnderlying72, Try.sizeOf54]⟩
instance : Fld Try.prog 72 3 3 := ⟨fun w a => by simp [Instr.fieldAt, Instr.sureAddr, fieldPlace, Try.runUnderlying72, Try.sizeOf66]⟩
instance : Fld Try.prog 72 4 4 := ⟨fun w a => by simp [Instr.fieldAt, Instr.sureAddr, fieldPlace, Try.runUnderlying72, Try.sizeOf5]⟩
instance : Fld Try.prog 72 5 5 := ⟨fun w a => by simp [Instr.fieldAt, Instr.sureAddr, fieldPlace, Try.runUnderlying72, Try.sizeOf5]⟩
instance : Fld Try.prog 72 6 6 := ⟨fun w a => by simp [Instr.fieldAt, Instr.sureAddr, fieldPlace, Try.runUnderlying72, Try.sizeOf67]⟩
instance : Fld Try.prog 72 7 7 := ⟨fun w a => by simp [Instr.fieldAt, Instr.sureAddr, fieldPlace, Try.runUnderlying72, Try.sizeOf68]⟩
instance : Fld Try.prog 72 8 8 := ⟨fun w a => by simp [Instr.fieldAt, Instr.sureAddr, fieldPlace, Try.runUnderlying72, Try.sizeOf69]⟩
instance : Fld Try.prog 72 9 9 := ⟨fun w a => by simp [Instr.fieldAt, Instr.sureAddr, fieldPlace, Try.runUnderlying72, Try.sizeOf70]⟩
instance : Fld Try.prog 72 10 10 := ⟨fun w a => by simp [Instr.fieldAt, Instr.sureAddr, fieldPlace, Try.runUnderlying72, Try.sizeOf71]⟩
instance : Cel Try.prog 73 11 := ⟨by kernel_rfl⟩
instance : Siz Try.prog 73 11 := ⟨Try.sizeOf73⟩
instance : Agg Try.prog 73 true := ⟨Try.isAgg73⟩
instance : Zer Try.prog 73 (.agg #[.int .u64 0, .int .u64 0, .int .u32 0, .int .u8 0, .int .u8 0, .int .u8 0, .int .u8 0, .nilFunc, .pointer none, .int .i32 0, .int .i32 0]) := ⟨Try.zeroValue73⟩
instance : Inf Try.prog 73 11 48 (.agg #[.int .u64 0, .int .u64 0, .int .u32 0, .int .u8 0, .int .u8 0, .int .u8 0, .int .u8 0, .nilFunc, .pointer none, .int .i32 0, .int .i32 0]) := ⟨inf_of (by kernel_rfl)⟩
instance : Plc Try.prog 73 [(0, 1), (1, 1), (2, 1), (3, 1), (4, 1), (5, 1), (6, 1), (7, 1), (8, 1), (9, 1), (10, 1)] := ⟨⟨_, Try.runUnderlying73, fun w => by simp [Try.sizeOf12, Try.sizeOf5, Try.sizeOf54, Try.sizeOf66, Try.sizeOf67, Try.sizeOf68, Try.sizeOf69, Try.sizeOf70, Try.sizeOf71]⟩⟩
instance : Fld Try.prog 73 0 0 := ⟨fun w a => by simp [Instr.fieldAt, Instr.sureAddr, fieldPlace, Try.runUnderlying73, Try.sizeOf12]⟩
instance : Fld Try.prog 73 1 1 := ⟨fun w a => by simp [Instr.fieldAt, Instr.sureAddr, fieldPlace, Try.runUnderlying73, Try.sizeOf12]⟩
instance : Fld Try.prog 73 2 2 := ⟨fun w a => by simp [Instr.fieldAt, Instr.sureAddr, fieldPlace, Try.runUnderlying73, Try.sizeOf54]⟩
instance : Fld Try.prog 73 3 3 := ⟨fun w a => by simp [Instr.fieldAt, Instr.sureAddr, fieldPlace, Try.runUnderlying73, Try.sizeOf66]⟩
instance : Fld Try.prog 73 4 4 := ⟨fun w a => by simp [Instr.fieldAt, Instr.sureAddr, fieldPlace, Try.runUnderlying73, Try.sizeOf5]⟩
instance : Fld Try.prog 73 5 5 := ⟨fun w a => by simp [Instr.fieldAt, Instr.sureAddr, fieldPlace, Try.runUnderlying73, Try.sizeOf5]⟩
instance : Fld Try.prog 73 6 6 := ⟨fun w a => by simp [Instr.fieldAt, Instr.sureAddr, fieldPlace, Try.runUnderlying73, Try.sizeOf67]⟩
instance : Fld Try.prog 73 7 7 := ⟨fun w a => by simp [Instr.fieldAt, Instr.sureAddr, fieldPlace, Try.runUnderlying73, Try.sizeOf68]⟩
instance : Fld Try.prog 73 8 8 := ⟨fun w a => by simp [Instr.fieldAt, Instr.sureAddr, fieldPlace, Try.runUnderlying73, Try.sizeOf69]⟩
instance : Fld Try.prog 73 9 9 := ⟨fun w a => by simp [Instr.fieldAt, Instr.sureAddr, fieldPlace, Try.runUnderlying73, Try.sizeOf70]⟩
instance : Fld Try.prog 73 10 10 := ⟨fun w a => by simp [Instr.fieldAt, Instr.sureAddr, fieldPlace, Try.runUnderlying73, Try.sizeOf71]⟩
instance : Cel Try.prog 74 1 := ⟨by kernel_rfl⟩
instance : Siz Try.prog 74 1 := ⟨Try.sizeOf74⟩
instance : Agg Try.prog 74 false := ⟨Try.isAgg74⟩
instance : Zer Try.prog 74 (.pointer none) := ⟨Try.zeroValue74⟩
instance : Inf Try.prog 74 1 8 (.pointer none) := ⟨inf_of (by kernel_rfl)⟩
instance : Mix Try.prog := ⟨by decide⟩
end Go.Proofs
