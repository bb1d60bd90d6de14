/- The facts on a seat's types, as instances of the abstract logic's classes. No condition. -/
import Derived.Test.YtjojdiefnhbglaaOpen
import Derived.Test.YtjojdiefnhbglaaOps17
import Derived.Test.YtjojdiefnhbglaaProg
namespace Go.Proofs
open Go.AL
instance : Cel Try.prog 0 1 := ⟨by kernel_rfl⟩
instance : Siz Try.prog 0 1 := ⟨Try.sizeOf0⟩
instance : Cel Try.prog 1 1 := ⟨by kernel_rfl⟩
instance : Siz Try.prog 1 1 := ⟨Try.sizeOf1⟩
instance : Agg Try.prog 1 false := ⟨Try.isAgg1⟩
instance : Zer Try.prog 1 (.nilFunc) := ⟨Try.zeroValue1⟩
instance : Inf Try.prog 1 1 8 (.nilFunc) := ⟨inf_of (by kernel_rfl)⟩
instance : Und Try.prog 2 (.int .i64) := ⟨Try.underlying2⟩
instance : Cel Try.prog 2 1 := ⟨by kernel_rfl⟩
instance : Siz Try.prog 2 1 := ⟨Try.sizeOf2⟩
instance : Agg Try.prog 2 false := ⟨Try.isAgg2⟩
instance : Zer Try.prog 2 (.int .i64 0) := ⟨Try.zeroValue2⟩
instance : Inf Try.prog 2 1 8 (.int .i64 0) := ⟨inf_of (by kernel_rfl)⟩
instance : Und Try.prog 3 (.int .i64) := ⟨Try.underlying3⟩
instance : Cel Try.prog 3 1 := ⟨by kernel_rfl⟩
instance : Siz Try.prog 3 1 := ⟨Try.sizeOf3⟩
instance : Agg Try.prog 3 false := ⟨Try.isAgg3⟩
instance : Zer Try.prog 3 (.int .i64 0) := ⟨Try.zeroValue3⟩
instance : Inf Try.prog 3 1 8 (.int .i64 0) := ⟨inf_of (by kernel_rfl)⟩
instance : Und Try.prog 4 .bool := ⟨Try.underlying4⟩
instance : Cel Try.prog 4 1 := ⟨by kernel_rfl⟩
instance : Siz Try.prog 4 1 := ⟨Try.sizeOf4⟩
instance : Agg Try.prog 4 false := ⟨Try.isAgg4⟩
instance : Zer Try.prog 4 (.bool false) := ⟨Try.zeroValue4⟩
instance : Inf Try.prog 4 1 1 (.bool false) := ⟨inf_of (by kernel_rfl)⟩
instance : Und Try.prog 5 (.int .u8) := ⟨Try.underlying5⟩
instance : Cel Try.prog 5 1 := ⟨by kernel_rfl⟩
instance : Siz Try.prog 5 1 := ⟨Try.sizeOf5⟩
instance : Agg Try.prog 5 false := ⟨Try.isAgg5⟩
instance : Zer Try.prog 5 (.int .u8 0) := ⟨Try.zeroValue5⟩
instance : Inf Try.prog 5 1 1 (.int .u8 0) := ⟨inf_of (by kernel_rfl)⟩
instance : Und Try.prog 6 (.int .u8) := ⟨Try.underlying6⟩
instance : Cel Try.prog 6 1 := ⟨by kernel_rfl⟩
instance : Siz Try.prog 6 1 := ⟨Try.sizeOf6⟩
instance : Agg Try.prog 6 false := ⟨Try.isAgg6⟩
instance : Zer Try.prog 6 (.int .u8 0) := ⟨Try.zeroValue6⟩
instance : Inf Try.prog 6 1 1 (.int .u8 0) := ⟨inf_of (by kernel_rfl)⟩
instance : Cel Try.prog 7 4 := ⟨by kernel_rfl⟩
instance : Siz Try.prog 7 4 := ⟨Try.sizeOf7⟩
instance : Agg Try.prog 7 true := ⟨Try.isAgg7⟩
instance : Zer Try.prog 7 (.agg #[.int .i64 0, .int .i64 0, .bool false, .int .u8 0]) := ⟨Try.zeroValue7⟩
instance : Inf Try.prog 7 4 24 (.agg #[.int .i64 0, .int .i64 0, .bool false, .int .u8 0]) := ⟨inf_of (by kernel_rfl)⟩
instance : Plc Try.prog 7 [(0, 1), (1, 1), (2, 1), (3, 1)] := ⟨⟨_, Try.runUnderlying7, fun w => by simp [Try.sizeOf2, Try.sizeOf3, Try.sizeOf4, Try.sizeOf6]⟩⟩
instance : Fld Try.prog 7 0 0 := ⟨fun w a => by simp [Instr.fieldAt, Instr.sureAddr, fieldPlace, Try.runUnderlying7, Try.sizeOf2]⟩
instance : Fld Try.prog 7 1 1 := ⟨fun w a => by simp [Instr.fieldAt, Instr.sureAddr, fieldPlace, Try.runUnderlying7, Try.sizeOf3]⟩
instance : Fld Try.prog 7 2 2 := ⟨fun w a => by simp [Instr.fieldAt, Instr.sureAddr, fieldPlace, Try.runUnderlying7, Try.sizeOf4]⟩
instance : Fld Try.prog 7 3 3 := ⟨fun w a => by simp [Instr.fieldAt, Instr.sureAddr, fieldPlace, Try.runUnderlying7, Try.sizeOf6]⟩
instance : Cel Try.prog 8 4 := ⟨by kernel_rfl⟩
instance : Siz Try.prog 8 4 := ⟨Try.sizeOf8⟩
instance : Agg Try.prog 8 true := ⟨Try.isAgg8⟩
instance : Zer Try.prog 8 (.agg #[.int .i64 0, .int .i64 0, .bool false, .int .u8 0]) := ⟨Try.zeroValue8⟩
instance : Inf Try.prog 8 4 24 (.agg #[.int .i64 0, .int .i64 0, .bool false, .int .u8 0]) := ⟨inf_of (by kernel_rfl)⟩
instance : Plc Try.prog 8 [(0, 1), (1, 1), (2, 1), (3, 1)] := ⟨⟨_, Try.runUnderlying8, fun w => by simp [Try.sizeOf2, Try.sizeOf3, Try.sizeOf4, Try.sizeOf6]⟩⟩
instance : Fld Try.prog 8 0 0 := ⟨fun w a => by simp [Instr.fieldAt, Instr.sureAddr, fieldPlace, Try.runUnderlying8, Try.sizeOf2]⟩
instance : Fld Try.prog 8 1 1 := ⟨fun w a => by simp [Instr.fieldAt, Instr.sureAddr, fieldPlace, Try.runUnderlying8, Try.sizeOf3]⟩
instance : Fld Try.prog 8 2 2 := ⟨fun w a => by simp [Instr.fieldAt, Instr.sureAddr, fieldPlace, Try.runUnderlying8, Try.sizeOf4]⟩
instance : Fld Try.prog 8 3 3 := ⟨fun w a => by simp [Instr.fieldAt, Instr.sureAddr, fieldPlace, Try.runUnderlying8, Try.sizeOf6]⟩
instance : Und Try.prog 9 .string := ⟨Try.underlying9⟩
instance : Cel Try.prog 9 1 := ⟨by kernel_rfl⟩
instance : Siz Try.prog 9 1 := ⟨Try.sizeOf9⟩
instance : Agg Try.prog 9 false := ⟨Try.isAgg9⟩
instance : Zer Try.prog 9 (.string ⟨#[]⟩) := ⟨Try.zeroValue9⟩
instance : Inf Try.prog 9 1 16 (.string ⟨#[]⟩) := ⟨inf_of (by kernel_rfl)⟩
instance : Und Try.prog 10 .string := ⟨Try.underlying10⟩
instance : Cel Try.prog 10 1 := ⟨by kernel_rfl⟩
instance : Siz Try.prog 10 1 := ⟨Try.sizeOf10⟩
instance : Agg Try.prog 10 false := ⟨Try.isAgg10⟩
instance : Zer Try.prog 10 (.string ⟨#[]⟩) := ⟨Try.zeroValue10⟩
instance : Inf Try.prog 10 1 16 (.string ⟨#[]⟩) := ⟨inf_of (by kernel_rfl)⟩
instance : Und Try.prog 11 .string := ⟨Try.underlying11⟩
instance : Cel Try.prog 11 1 := ⟨by kernel_rfl⟩
instance : Siz Try.prog 11 1 := ⟨Try.sizeOf11⟩
instance : Agg Try.prog 11 false := ⟨Try.isAgg11⟩
instance : Zer Try.prog 11 (.string ⟨#[]⟩) := ⟨Try.zeroValue11⟩
instance : Inf Try.prog 11 1 16 (.string ⟨#[]⟩) := ⟨inf_of (by kernel_rfl)⟩
instance : Und Try.prog 12 (.int .u64) := ⟨Try.underlying12⟩
instance : Cel Try.prog 12 1 := ⟨by kernel_rfl⟩
instance : Siz Try.prog 12 1 := ⟨Try.sizeOf12⟩
instance : Agg Try.prog 12 false := ⟨Try.isAgg12⟩
instance : Zer Try.prog 12 (.int .u64 0) := ⟨Try.zeroValue12⟩
instance : Inf Try.prog 12 1 8 (.int .u64 0) := ⟨inf_of (by kernel_rfl)⟩
instance : Cel Try.prog 13 2 := ⟨by kernel_rfl⟩
instance : Siz Try.prog 13 2 := ⟨Try.sizeOf13⟩
instance : Agg Try.prog 13 true := ⟨Try.isAgg13⟩
instance : Zer Try.prog 13 (.agg #[.string ⟨#[]⟩, .int .u64 0]) := ⟨Try.zeroValue13⟩
instance : Inf Try.prog 13 2 24 (.agg #[.string ⟨#[]⟩, .int .u64 0]) := ⟨inf_of (by kernel_rfl)⟩
instance : Plc Try.prog 13 [(0, 1), (1, 1)] := ⟨⟨_, Try.runUnderlying13, fun w => by simp [Try.sizeOf12, Try.sizeOf9]⟩⟩
instance : Fld Try.prog 13 0 0 := ⟨fun w a => by simp [Instr.fieldAt, Instr.sureAddr, fieldPlace, Try.runUnderlying13, Try.sizeOf9]⟩
instance : Fld Try.prog 13 1 1 := ⟨fun w a => by simp [Instr.fieldAt, Instr.sureAddr, fieldPlace, Try.runUnderlying13, Try.sizeOf12]⟩
instance : Cel Try.prog 14 2 := ⟨by kernel_rfl⟩
instance : Siz Try.prog 14 2 := ⟨Try.sizeOf14⟩
instance : Agg Try.prog 14 true := ⟨Try.isAgg14⟩
instance : Zer Try.prog 14 (.agg #[.string ⟨#[]⟩, .int .u64 0]) := ⟨Try.zeroValue14⟩
instance : Inf Try.prog 14 2 24 (.agg #[.string ⟨#[]⟩, .int .u64 0]) := ⟨inf_of (by kernel_rfl)⟩
instance : Plc Try.prog 14 [(0, 1), (1, 1)] := ⟨⟨_, Try.runUnderlying14, fun w => by simp [Try.sizeOf12, Try.sizeOf9]⟩⟩
instance : Fld Try.prog 14 0 0 := ⟨fun w a => by simp [Instr.fieldAt, Instr.sureAddr, fieldPlace, Try.runUnderlying14, Try.sizeOf9]⟩
instance : Fld Try.prog 14 1 1 := ⟨fun w a => by simp [Instr.fieldAt, Instr.sureAddr, fieldPlace, Try.runUnderlying14, Try.sizeOf12]⟩
instance : Und Try.prog 15 (.pointer 243) := ⟨Try.underlying15⟩
instance : Cel Try.prog 15 1 := ⟨by kernel_rfl⟩
instance : Siz Try.prog 15 1 := ⟨Try.sizeOf15⟩
instance : Agg Try.prog 15 false := ⟨Try.isAgg15⟩
instance : Zer Try.prog 15 (.pointer none) := ⟨Try.zeroValue15⟩
instance : Inf Try.prog 15 1 8 (.pointer none) := ⟨inf_of (by kernel_rfl)⟩
instance : Und Try.prog 16 (.pointer 246) := ⟨Try.underlying16⟩
instance : Cel Try.prog 16 1 := ⟨by kernel_rfl⟩
instance : Siz Try.prog 16 1 := ⟨Try.sizeOf16⟩
instance : Agg Try.prog 16 false := ⟨Try.isAgg16⟩
instance : Zer Try.prog 16 (.pointer none) := ⟨Try.zeroValue16⟩
instance : Inf Try.prog 16 1 8 (.pointer none) := ⟨inf_of (by kernel_rfl)⟩
instance : Und Try.prog 17 (.pointer 254) := ⟨Try.underlying17⟩
instance : Cel Try.prog 17 1 := ⟨by kernel_rfl⟩
instance : Siz Try.prog 17 1 := ⟨Try.sizeOf17⟩
instance : Agg Try.prog 17 false := ⟨Try.isAgg17⟩
instance : Zer Try.prog 17 (.pointer none) := ⟨Try.zeroValue17⟩
instance : Inf Try.prog 17 1 8 (.pointer none) := ⟨inf_of (by kernel_rfl)⟩
instance : Cel Try.prog 18 1 := ⟨by kernel_rfl⟩
instance : Siz Try.prog 18 1 := ⟨Try.sizeOf18⟩
instance : Agg Try.prog 18 true := ⟨Try.isAgg18⟩
instance : Zer Try.prog 18 (.agg #[.pointer none]) := ⟨Try.zeroValue18⟩
instance : Inf Try.prog 18 1 8 (.agg #[.pointer none]) := ⟨inf_of (by kernel_rfl)⟩
instance : Plc Try.prog 18 [(0, 1)] := ⟨⟨_, Try.runUnderlying18, fun w => by simp [Try.sizeOf17]⟩⟩
instance : Fld Try.prog 18 0 0 := ⟨fun w a => by simp [Instr.fieldAt, Instr.sureAddr, fieldPlace, Try.runUnderlying18, Try.sizeOf17]⟩
instance : Cel Try.prog 19 1 := ⟨by kernel_rfl⟩
instance : Siz Try.prog 19 1 := ⟨Try.sizeOf19⟩
instance : Agg Try.prog 19 true := ⟨Try.isAgg19⟩
instance : Zer Try.prog 19 (.agg #[.pointer none]) := ⟨Try.zeroValue19⟩
instance : Inf Try.prog 19 1 8 (.agg #[.pointer none]) := ⟨inf_of (by kernel_rfl)⟩
instance : Plc Try.prog 19 [(0, 1)] := ⟨⟨_, Try.runUnderlying19, fun w => by simp [Try.sizeOf17]⟩⟩
instance : Fld Try.prog 19 0 0 := ⟨fun w a => by simp [Instr.fieldAt, Instr.sureAddr, fieldPlace, Try.runUnderlying19, Try.sizeOf17]⟩
instance : Ifc Try.prog 20 := ⟨⟨_, Try.underlying20⟩⟩
instance : Cel Try.prog 20 1 := ⟨by kernel_rfl⟩
instance : Siz Try.prog 20 1 := ⟨Try.sizeOf20⟩
instance : Agg Try.prog 20 false := ⟨Try.isAgg20⟩
instance : Zer Try.prog 20 (.nilIface) := ⟨Try.zeroValue20⟩
instance : Inf Try.prog 20 1 16 (.nilIface) := ⟨inf_of (by kernel_rfl)⟩
instance : Und Try.prog 21 (.int .i32) := ⟨Try.underlying21⟩
instance : Cel Try.prog 21 1 := ⟨by kernel_rfl⟩
instance : Siz Try.prog 21 1 := ⟨Try.sizeOf21⟩
instance : Agg Try.prog 21 false := ⟨Try.isAgg21⟩
instance : Zer Try.prog 21 (.int .i32 0) := ⟨Try.zeroValue21⟩
instance : Inf Try.prog 21 1 4 (.int .i32 0) := ⟨inf_of (by kernel_rfl)⟩
instance : Und Try.prog 22 (.slice 36) := ⟨Try.underlying22⟩
instance : Cel Try.prog 22 1 := ⟨by kernel_rfl⟩
instance : Siz Try.prog 22 1 := ⟨Try.sizeOf22⟩
instance : Agg Try.prog 22 false := ⟨Try.isAgg22⟩
instance : Zer Try.prog 22 (.slice none 0 0) := ⟨Try.zeroValue22⟩
instance : Inf Try.prog 22 1 24 (.slice none 0 0) := ⟨inf_of (by kernel_rfl)⟩
instance : Cel Try.prog 23 1 := ⟨by kernel_rfl⟩
instance : Siz Try.prog 23 1 := ⟨Try.sizeOf23⟩
instance : Agg Try.prog 23 false := ⟨Try.isAgg23⟩
instance : Zer Try.prog 23 (.nilFunc) := ⟨Try.zeroValue23⟩
instance : Inf Try.prog 23 1 8 (.nilFunc) := ⟨inf_of (by kernel_rfl)⟩
instance : Cel Try.prog 24 1 := ⟨by kernel_rfl⟩
instance : Siz Try.prog 24 1 := ⟨Try.sizeOf24⟩
instance : Agg Try.prog 24 false := ⟨Try.isAgg24⟩
instance : Zer Try.prog 24 (.nilFunc) := ⟨Try.zeroValue24⟩
instance : Inf Try.prog 24 1 8 (.nilFunc) := ⟨inf_of (by kernel_rfl)⟩
instance : Und Try.prog 25 (.pointer 86) := ⟨Try.underlying25⟩
instance : Cel Try.prog 25 1 := ⟨by kernel_rfl⟩
instance : Siz Try.prog 25 1 := ⟨Try.sizeOf25⟩
instance : Agg Try.prog 25 false := ⟨Try.isAgg25⟩
instance : Zer Try.prog 25 (.pointer none) := ⟨Try.zeroValue25⟩
instance : Inf Try.prog 25 1 8 (.pointer none) := ⟨inf_of (by kernel_rfl)⟩
instance : Und Try.prog 26 (.int .i64) := ⟨Try.underlying26⟩
instance : Cel Try.prog 26 1 := ⟨by kernel_rfl⟩
instance : Siz Try.prog 26 1 := ⟨Try.sizeOf26⟩
instance : Agg Try.prog 26 false := ⟨Try.isAgg26⟩
instance : Zer Try.prog 26 (.int .i64 0) := ⟨Try.zeroValue26⟩
instance : Inf Try.prog 26 1 8 (.int .i64 0) := ⟨inf_of (by kernel_rfl)⟩
instance : Cel Try.prog 27 1 := ⟨by kernel_rfl⟩
instance : Siz Try.prog 27 1 := ⟨Try.sizeOf27⟩
instance : Cel Try.prog 28 1 := ⟨by kernel_rfl⟩
instance : Siz Try.prog 28 1 := ⟨Try.sizeOf28⟩
instance : Agg Try.prog 28 false := ⟨Try.isAgg28⟩
instance : Zer Try.prog 28 (.nilFunc) := ⟨Try.zeroValue28⟩
instance : Inf Try.prog 28 1 8 (.nilFunc) := ⟨inf_of (by kernel_rfl)⟩
instance : Cel Try.prog 29 1 := ⟨by kernel_rfl⟩
instance : Siz Try.prog 29 1 := ⟨Try.sizeOf29⟩
instance : Agg Try.prog 29 false := ⟨Try.isAgg29⟩
instance : Zer Try.prog 29 (.nilFunc) := ⟨Try.zeroValue29⟩
instance : Inf Try.prog 29 1 8 (.nilFunc) := ⟨inf_of (by kernel_rfl)⟩
instance : Cel Try.prog 30 1 := ⟨by kernel_rfl⟩
instance : Siz Try.prog 30 1 := ⟨Try.sizeOf30⟩
instance : Agg Try.prog 30 false := ⟨Try.isAgg30⟩
instance : Zer Try.prog 30 (.nilFunc) := ⟨Try.zeroValue30⟩
instance : Inf Try.prog 30 1 8 (.nilFunc) := ⟨inf_of (by kernel_rfl)⟩
instance : Cel Try.prog 31 1 := ⟨by kernel_rfl⟩
instance : Siz Try.prog 31 1 := ⟨Try.sizeOf31⟩
instance : Agg Try.prog 31 false := ⟨Try.isAgg31⟩
instance : Zer Try.prog 31 (.nilFunc) := ⟨Try.zeroValue31⟩
instance : Inf Try.prog 31 1 8 (.nilFunc) := ⟨inf_of (by kernel_rfl)⟩
instance : Cel Try.prog 32 1 := ⟨by kernel_rfl⟩
instance : Siz Try.prog 32 1 := ⟨Try.sizeOf32⟩
instance : Agg Try.prog 32 false := ⟨Try.isAgg32⟩
instance : Zer Try.prog 32 (.nilFunc) := ⟨Try.zeroValue32⟩
instance : Inf Try.prog 32 1 8 (.nilFunc) := ⟨inf_of (by kernel_rfl)⟩
instance : Cel Try.prog 33 3 := ⟨by kernel_rfl⟩
instance : Siz Try.prog 33 3 := ⟨Try.sizeOf33⟩
instance : Agg Try.prog 33 true := ⟨Try.isAgg33⟩
instance : Zer Try.prog 33 (.agg #[.int .i64 0, .int .i64 0, .string ⟨#[]⟩]) := ⟨Try.zeroValue33⟩
instance : Inf Try.prog 33 3 32 (.agg #[.int .i64 0, .int .i64 0, .string ⟨#[]⟩]) := ⟨inf_of (by kernel_rfl)⟩
instance : Plc Try.prog 33 [(0, 1), (1, 1), (2, 1)] := ⟨⟨_, Try.runUnderlying33, fun w => by simp [Try.sizeOf2, Try.sizeOf3, Try.sizeOf9]⟩⟩
instance : Fld Try.prog 33 0 0 := ⟨fun w a => by simp [Instr.fieldAt, Instr.sureAddr, fieldPlace, Try.runUnderlying33, Try.sizeOf3]⟩
instance : Fld Try.prog 33 1 1 := ⟨fun w a => by simp [Instr.fieldAt, Instr.sureAddr, fieldPlace, Try.runUnderlying33, Try.sizeOf2]⟩
instance : Fld Try.prog 33 2 2 := ⟨fun w a => by simp [Instr.fieldAt, Instr.sureAddr, fieldPlace, Try.runUnderlying33, Try.sizeOf9]⟩
instance : Cel Try.prog 34 3 := ⟨by kernel_rfl⟩
instance : Siz Try.prog 34 3 := ⟨Try.sizeOf34⟩
instance : Agg Try.prog 34 true := ⟨Try.isAgg34⟩
instance : Zer Try.prog 34 (.agg #[.int .i64 0, .int .i64 0, .string ⟨#[]⟩]) := ⟨Try.zeroValue34⟩
instance : Inf Try.prog 34 3 32 (.agg #[.int .i64 0, .int .i64 0, .string ⟨#[]⟩]) := ⟨inf_of (by kernel_rfl)⟩
instance : Plc Try.prog 34 [(0, 1), (1, 1), (2, 1)] := ⟨⟨_, Try.runUnderlying34, fun w => by simp [Try.sizeOf2, Try.sizeOf3, Try.sizeOf9]⟩⟩
instance : Fld Try.prog 34 0 0 := ⟨fun w a => by simp [Instr.fieldAt, Instr.sureAddr, fieldPlace, Try.runUnderlying34, Try.sizeOf3]⟩
instance : Fld Try.prog 34 1 1 := ⟨fun w a => by simp [Instr.fieldAt, Instr.sureAddr, fieldPlace, Try.runUnderlying34, Try.sizeOf2]⟩
instance : Fld Try.prog 34 2 2 := ⟨fun w a => by simp [Instr.fieldAt, Instr.sureAddr, fieldPlace, Try.runUnderlying34, Try.sizeOf9]⟩
instance : Cel Try.prog 35 9 := ⟨by kernel_rfl⟩
instance : Siz Try.prog 35 9 := ⟨Try.sizeOf35⟩
instance : Agg Try.prog 35 true := ⟨Try.isAgg35⟩
instance : Zer Try.prog 35 (.agg #[.int .i64 0, .int .i64 0, .int .i64 0, .int .i64 0, .string ⟨#[]⟩, .int .i64 0, .bool false, .int .i64 0, .int .i64 0]) := ⟨Try.zeroValue35⟩
instance : Inf Try.prog 35 9 80 (.agg #[.int .i64 0, .int .i64 0, .int .i64 0, .int .i64 0, .string ⟨#[]⟩, .int .i64 0, .bool false, .int .i64 0, .int .i64 0]) := ⟨inf_of (by kernel_rfl)⟩
instance : Plc Try.prog 35 [(0, 1), (1, 1), (2, 3), (5, 1), (6, 1), (7, 1), (8, 1)] := ⟨⟨_, Try.runUnderlying35, fun w => by simp [Try.sizeOf2, Try.sizeOf34, Try.sizeOf4]⟩⟩
instance : Fld Try.prog 35 0 0 := ⟨fun w a => by simp [Instr.fieldAt, Instr.sureAddr, fieldPlace, Try.runUnderlying35, Try.sizeOf2]⟩
instance : Fld Try.prog 35 1 1 := ⟨fun w a => by simp [Instr.fieldAt, Instr.sureAddr, fieldPlace, Try.runUnderlying35, Try.sizeOf2]⟩
instance : Fld Try.prog 35 2 2 := ⟨fun w a => by simp [Instr.fieldAt, Instr.sureAddr, fieldPlace, Try.runUnderlying35, Try.sizeOf34]⟩
instance : Fld Try.prog 35 3 5 := ⟨fun w a => by simp [Instr.fieldAt, Instr.sureAddr, fieldPlace, Try.runUnderlying35, Try.sizeOf2]⟩
instance : Fld Try.prog 35 4 6 := ⟨fun w a => by simp [Instr.fieldAt, Instr.sureAddr, fieldPlace, Try.runUnderlying35, Try.sizeOf4]⟩
instance : Fld Try.prog 35 5 7 := ⟨fun w a => by simp [Instr.fieldAt, Instr.sureAddr, fieldPlace, Try.runUnderlying35, Try.sizeOf2]⟩
instance : Fld Try.prog 35 6 8 := ⟨fun w a => by simp [Instr.fieldAt, Instr.sureAddr, fieldPlace, Try.runUnderlying35, Try.sizeOf2]⟩
instance : Cel Try.prog 36 9 := ⟨by kernel_rfl⟩
instance : Siz Try.prog 36 9 := ⟨Try.sizeOf36⟩
instance : Agg Try.prog 36 true := ⟨Try.isAgg36⟩
instance : Zer Try.prog 36 (.agg #[.int .i64 0, .int .i64 0, .int .i64 0, .int .i64 0, .string ⟨#[]⟩, .int .i64 0, .bool false, .int .i64 0, .int .i64 0]) := ⟨Try.zeroValue36⟩
instance : Inf Try.prog 36 9 80 (.agg #[.int .i64 0, .int .i64 0, .int .i64 0, .int .i64 0, .string ⟨#[]⟩, .int .i64 0, .bool false, .int .i64 0, .int .i64 0]) := ⟨inf_of (by kernel_rfl)⟩
instance : Plc Try.prog 36 [(0, 1), (1, 1), (2, 3), (5, 1), (6, 1), (7, 1), (8, 1)] := ⟨⟨_, Try.runUnderlying36, fun w => by simp [Try.sizeOf2, Try.sizeOf34, Try.sizeOf4]⟩⟩
instance : Fld Try.prog 36 0 0 := ⟨fun w a => by simp [Instr.fieldAt, Instr.sureAddr, fieldPlace, Try.runUnderlying36, Try.sizeOf2]⟩
instance : Fld Try.prog 36 1 1 := ⟨fun w a => by simp [Instr.fieldAt, Instr.sureAddr, fieldPlace, Try.runUnderlying36, Try.sizeOf2]⟩
instance : Fld Try.prog 36 2 2 := ⟨fun w a => by simp [Instr.fieldAt, Instr.sureAddr, fieldPlace, Try.runUnderlying36, Try.sizeOf34]⟩
instance : Fld Try.prog 36 3 5 := ⟨fun w a => by simp [Instr.fieldAt, Instr.sureAddr, fieldPlace, Try.runUnderlying36, Try.sizeOf2]⟩
instance : Fld Try.prog 36 4 6 := ⟨fun w a => by simp [Instr.fieldAt, Instr.sureAddr, fieldPlace, Try.runUnderlying36, Try.sizeOf4]⟩
instance : Fld Try.prog 36 5 7 := ⟨fun w a => by simp [Instr.fieldAt, Instr.sureAddr, fieldPlace, Try.runUnderlying36, Try.sizeOf2]⟩
instance : Fld Try.prog 36 6 8 := ⟨fun w a => by simp [Instr.fieldAt, Instr.sureAddr, fieldPlace, Try.runUnderlying36, Try.sizeOf2]⟩
instance : Cel Try.prog 37 1 := ⟨by kernel_rfl⟩
instance : Siz Try.prog 37 1 := ⟨Try.sizeOf37⟩
instance : Cel Try.prog 38 1 := ⟨by kernel_rfl⟩
instance : Siz Try.prog 38 1 := ⟨Try.sizeOf38⟩
instance : Agg Try.prog 38 false := ⟨Try.isAgg38⟩
instance : Zer Try.prog 38 (.nilFunc) := ⟨Try.zeroValue38⟩
instance : Inf Try.prog 38 1 8 (.nilFunc) := ⟨inf_of (by kernel_rfl)⟩
instance : Cel Try.prog 39 1 := ⟨by kernel_rfl⟩
instance : Siz Try.prog 39 1 := ⟨Try.sizeOf39⟩
instance : Cel Try.prog 40 1 := ⟨by kernel_rfl⟩
instance : Siz Try.prog 40 1 := ⟨Try.sizeOf40⟩
instance : Agg Try.prog 40 false := ⟨Try.isAgg40⟩
instance : Zer Try.prog 40 (.nilFunc) := ⟨Try.zeroValue40⟩
instance : Inf Try.prog 40 1 8 (.nilFunc) := ⟨inf_of (by kernel_rfl)⟩
instance : Cel Try.prog 41 1 := ⟨by kernel_rfl⟩
instance : Siz Try.prog 41 1 := ⟨Try.sizeOf41⟩
instance : Agg Try.prog 41 false := ⟨Try.isAgg41⟩
instance : Zer Try.prog 41 (.nilFunc) := ⟨Try.zeroValue41⟩
instance : Inf Try.prog 41 1 8 (.nilFunc) := ⟨inf_of (by kernel_rfl)⟩
instance : Cel Try.prog 42 1 := ⟨by kernel_rfl⟩
instance : Siz Try.prog 42 1 := ⟨Try.sizeOf42⟩
instance : Agg Try.prog 42 false := ⟨Try.isAgg42⟩
instance : Zer Try.prog 42 (.nilFunc) := ⟨Try.zeroValue42⟩
instance : Inf Try.prog 42 1 8 (.nilFunc) := ⟨inf_of (by kernel_rfl)⟩
instance : Cel Try.prog 43 1 := ⟨by kernel_rfl⟩
instance : Siz Try.prog 43 1 := ⟨Try.sizeOf43⟩
instance : Agg Try.prog 43 false := ⟨Try.isAgg43⟩
instance : Zer Try.prog 43 (.nilFunc) := ⟨Try.zeroValue43⟩
instance : Inf Try.prog 43 1 8 (.nilFunc) := ⟨inf_of (by kernel_rfl)⟩
instance : Und Try.prog 44 (.slice 111) := ⟨Try.underlying44⟩
instance : Cel Try.prog 44 1 := ⟨by kernel_rfl⟩
instance : Siz Try.prog 44 1 := ⟨Try.sizeOf44⟩
instance : Agg Try.prog 44 false := ⟨Try.isAgg44⟩
instance : Zer Try.prog 44 (.slice none 0 0) := ⟨Try.zeroValue44⟩
instance : Inf Try.prog 44 1 24 (.slice none 0 0) := ⟨inf_of (by kernel_rfl)⟩
instance : Cel Try.prog 45 1 := ⟨by kernel_rfl⟩
instance : Siz Try.prog 45 1 := ⟨Try.sizeOf45⟩
instance : Agg Try.prog 45 false := ⟨Try.isAgg45⟩
instance : Zer Try.prog 45 (.nilFunc) := ⟨Try.zeroValue45⟩
instance : Inf Try.prog 45 1 8 (.nilFunc) := ⟨inf_of (by kernel_rfl)⟩
instance : Und Try.prog 46 (.slice 53) := ⟨Try.underlying46⟩
instance : Cel Try.prog 46 1 := ⟨by kernel_rfl⟩
instance : Siz Try.prog 46 1 := ⟨Try.sizeOf46⟩
instance : Agg Try.prog 46 false := ⟨Try.isAgg46⟩
instance : Zer Try.prog 46 (.slice none 0 0) := ⟨Try.zeroValue46⟩
instance : Inf Try.prog 46 1 24 (.slice none 0 0) := ⟨inf_of (by kernel_rfl)⟩
instance : Cel Try.prog 47 1 := ⟨by kernel_rfl⟩
instance : Siz Try.prog 47 1 := ⟨Try.sizeOf47⟩
instance : Cel Try.prog 48 1 := ⟨by kernel_rfl⟩
instance : Siz Try.prog 48 1 := ⟨Try.sizeOf48⟩
instance : Agg Try.prog 48 false := ⟨Try.isAgg48⟩
instance : Zer Try.prog 48 (.nilFunc) := ⟨Try.zeroValue48⟩
instance : Inf Try.prog 48 1 8 (.nilFunc) := ⟨inf_of (by kernel_rfl)⟩
instance : Und Try.prog 49 (.slice 54) := ⟨Try.underlying49⟩
instance : Cel Try.prog 49 1 := ⟨by kernel_rfl⟩
instance : Siz Try.prog 49 1 := ⟨Try.sizeOf49⟩
instance : Agg Try.prog 49 false := ⟨Try.isAgg49⟩
instance : Zer Try.prog 49 (.slice none 0 0) := ⟨Try.zeroValue49⟩
instance : Inf Try.prog 49 1 24 (.slice none 0 0) := ⟨inf_of (by kernel_rfl)⟩
instance : Cel Try.prog 50 1 := ⟨by kernel_rfl⟩
instance : Siz Try.prog 50 1 := ⟨Try.sizeOf50⟩
instance : Cel Try.prog 51 1 := ⟨by kernel_rfl⟩
instance : Siz Try.prog 51 1 := ⟨Try.sizeOf51⟩
instance : Agg Try.prog 51 false := ⟨Try.isAgg51⟩
instance : Zer Try.prog 51 (.nilFunc) := ⟨Try.zeroValue51⟩
instance : Inf Try.prog 51 1 8 (.nilFunc) := ⟨inf_of (by kernel_rfl)⟩
instance : Cel Try.prog 52 2 := ⟨by kernel_rfl⟩
instance : Siz Try.prog 52 2 := ⟨Try.sizeOf52⟩
instance : Agg Try.prog 52 true := ⟨Try.isAgg52⟩
instance : Zer Try.prog 52 (.agg #[.int .i64 0, .int .i64 0]) := ⟨Try.zeroValue52⟩
instance : Inf Try.prog 52 2 16 (.agg #[.int .i64 0, .int .i64 0]) := ⟨inf_of (by kernel_rfl)⟩
instance : Plc Try.prog 52 [(0, 1), (1, 1)] := ⟨⟨_, Try.runUnderlying52, fun w => by simp [Try.sizeOf2, Try.sizeOf3]⟩⟩
instance : Fld Try.prog 52 0 0 := ⟨fun w a => by simp [Instr.fieldAt, Instr.sureAddr, fieldPlace, Try.runUnderlying52, Try.sizeOf2]⟩
instance : Fld Try.prog 52 1 1 := ⟨fun w a => by simp [Instr.fieldAt, Instr.sureAddr, fieldPlace, Try.runUnderlying52, Try.sizeOf3]⟩
instance : Cel Try.prog 53 2 := ⟨by kernel_rfl⟩
instance : Siz Try.prog 53 2 := ⟨Try.sizeOf53⟩
instance : Agg Try.prog 53 true := ⟨Try.isAgg53⟩
instance : Zer Try.prog 53 (.agg #[.int .i64 0, .int .i64 0]) := ⟨Try.zeroValue53⟩
instance : Inf Try.prog 53 2 16 (.agg #[.int .i64 0, .int .i64 0]) := ⟨inf_of (by kernel_rfl)⟩
instance : Plc Try.prog 53 [(0, 1), (1, 1)] := ⟨⟨_, Try.runUnderlying53, fun w => by simp [Try.sizeOf2, Try.sizeOf3]⟩⟩
instance : Fld Try.prog 53 0 0 := ⟨fun w a => by simp [Instr.fieldAt, Instr.sureAddr, fieldPlace, Try.runUnderlying53, Try.sizeOf2]⟩
instance : Fld Try.prog 53 1 1 := ⟨fun w a => by simp [Instr.fieldAt, Instr.sureAddr, fieldPlace, Try.runUnderlying53, Try.sizeOf3]⟩
instance : Cel Try.prog 54 2 := ⟨by kernel_rfl⟩
instance : Siz Try.prog 54 2 := ⟨Try.sizeOf54⟩
instance : Agg Try.prog 54 true := ⟨Try.isAgg54⟩
instance : Zer Try.prog 54 (.agg #[.int .i64 0, .int .i64 0]) := ⟨Try.zeroValue54⟩
instance : Inf Try.prog 54 2 16 (.agg #[.int .i64 0, .int .i64 0]) := ⟨inf_of (by kernel_rfl)⟩
instance : Plc Try.prog 54 [(0, 1), (1, 1)] := ⟨⟨_, Try.runUnderlying54, fun w => by simp [Try.sizeOf2, Try.sizeOf3]⟩⟩
instance : Fld Try.prog 54 0 0 := ⟨fun w a => by simp [Instr.fieldAt, Instr.sureAddr, fieldPlace, Try.runUnderlying54, Try.sizeOf2]⟩
instance : Fld Try.prog 54 1 1 := ⟨fun w a => by simp [Instr.fieldAt, Instr.sureAddr, fieldPlace, Try.runUnderlying54, Try.sizeOf3]⟩
instance : Cel Try.prog 55 1 := ⟨by kernel_rfl⟩
instance : Siz Try.prog 55 1 := ⟨Try.sizeOf55⟩
instance : Agg Try.prog 55 false := ⟨Try.isAgg55⟩
instance : Zer Try.prog 55 (.nilFunc) := ⟨Try.zeroValue55⟩
instance : Inf Try.prog 55 1 8 (.nilFunc) := ⟨inf_of (by kernel_rfl)⟩
instance : Cel Try.prog 56 1 := ⟨by kernel_rfl⟩
instance : Siz Try.prog 56 1 := ⟨Try.sizeOf56⟩
instance : Agg Try.prog 56 false := ⟨Try.isAgg56⟩
instance : Zer Try.prog 56 (.nilFunc) := ⟨Try.zeroValue56⟩
instance : Inf Try.prog 56 1 8 (.nilFunc) := ⟨inf_of (by kernel_rfl)⟩
instance : Und Try.prog 57 (.slice 73) := ⟨Try.underlying57⟩
instance : Cel Try.prog 57 1 := ⟨by kernel_rfl⟩
instance : Siz Try.prog 57 1 := ⟨Try.sizeOf57⟩
instance : Agg Try.prog 57 false := ⟨Try.isAgg57⟩
instance : Zer Try.prog 57 (.slice none 0 0) := ⟨Try.zeroValue57⟩
instance : Inf Try.prog 57 1 24 (.slice none 0 0) := ⟨inf_of (by kernel_rfl)⟩
instance : Cel Try.prog 58 1 := ⟨by kernel_rfl⟩
instance : Siz Try.prog 58 1 := ⟨Try.sizeOf58⟩
instance : Cel Try.prog 59 1 := ⟨by kernel_rfl⟩
instance : Siz Try.prog 59 1 := ⟨Try.sizeOf59⟩
instance : Agg Try.prog 59 false := ⟨Try.isAgg59⟩
instance : Zer Try.prog 59 (.nilFunc) := ⟨Try.zeroValue59⟩
instance : Inf Try.prog 59 1 8 (.nilFunc) := ⟨inf_of (by kernel_rfl)⟩
instance : Und Try.prog 60 (.slice 74) := ⟨Try.underlying60⟩
instance : Cel Try.prog 60 1 := ⟨by kernel_rfl⟩
instance : Siz Try.prog 60 1 := ⟨Try.sizeOf60⟩
instance : Agg Try.prog 60 false := ⟨Try.isAgg60⟩
instance : Zer Try.prog 60 (.slice none 0 0) := ⟨Try.zeroValue60⟩
instance : Inf Try.prog 60 1 24 (.slice none 0 0) := ⟨inf_of (by kernel_rfl)⟩
instance : Cel Try.prog 61 1 := ⟨by kernel_rfl⟩
instance : Siz Try.prog 61 1 := ⟨Try.sizeOf61⟩
instance : Cel Try.prog 62 1 := ⟨by kernel_rfl⟩
instance : Siz Try.prog 62 1 := ⟨Try.sizeOf62⟩
instance : Agg Try.prog 62 false := ⟨Try.isAgg62⟩
instance : Zer Try.prog 62 (.nilFunc) := ⟨Try.zeroValue62⟩
instance : Inf Try.prog 62 1 8 (.nilFunc) := ⟨inf_of (by kernel_rfl)⟩
instance : Und Try.prog 63 (.array 8 3) := ⟨Try.underlying63⟩
instance : Cel Try.prog 63 8 := ⟨by kernel_rfl⟩
instance : Siz Try.prog 63 8 := ⟨Try.sizeOf63⟩
instance : Agg Try.prog 63 true := ⟨Try.isAgg63⟩
instance : Zer Try.prog 63 (.agg #[.int .i64 0, .int .i64 0, .int .i64 0, .int .i64 0, .int .i64 0, .int .i64 0, .int .i64 0, .int .i64 0]) := ⟨Try.zeroValue63⟩
instance : Inf Try.prog 63 8 64 (.agg #[.int .i64 0, .int .i64 0, .int .i64 0, .int .i64 0, .int .i64 0, .int .i64 0, .int .i64 0, .int .i64 0]) := ⟨inf_of (by kernel_rfl)⟩
instance : Cel Try.prog 64 1 := ⟨by kernel_rfl⟩
instance : Siz Try.prog 64 1 := ⟨Try.sizeOf64⟩
instance : Cel Try.prog 65 1 := ⟨by kernel_rfl⟩
instance : Siz Try.prog 65 1 := ⟨Try.sizeOf65⟩
instance : Agg Try.prog 65 false := ⟨Try.isAgg65⟩
instance : Zer Try.prog 65 (.nilFunc) := ⟨Try.zeroValue65⟩
instance : Inf Try.prog 65 1 8 (.nilFunc) := ⟨inf_of (by kernel_rfl)⟩
instance : Cel Try.prog 66 1 := ⟨by kernel_rfl⟩
instance : Siz Try.prog 66 1 := ⟨Try.sizeOf66⟩
instance : Cel Try.prog 67 1 := ⟨by kernel_rfl⟩
instance : Siz Try.prog 67 1 := ⟨Try.sizeOf67⟩
instance : Agg Try.prog 67 false := ⟨Try.isAgg67⟩
instance : Zer Try.prog 67 (.nilFunc) := ⟨Try.zeroValue67⟩
instance : Inf Try.prog 67 1 8 (.nilFunc) := ⟨inf_of (by kernel_rfl)⟩
instance : Cel Try.prog 68 1 := ⟨by kernel_rfl⟩
instance : Siz Try.prog 68 1 := ⟨Try.sizeOf68⟩
instance : Cel Try.prog 69 1 := ⟨by kernel_rfl⟩
instance : Siz Try.prog 69 1 := ⟨Try.sizeOf69⟩
instance : Agg Try.prog 69 false := ⟨Try.isAgg69⟩
instance : Zer Try.prog 69 (.nilFunc) := ⟨Try.zeroValue69⟩
instance : Inf Try.prog 69 1 8 (.nilFunc) := ⟨inf_of (by kernel_rfl)⟩
instance : Cel Try.prog 70 1 := ⟨by kernel_rfl⟩
instance : Siz Try.prog 70 1 := ⟨Try.sizeOf70⟩
instance : Cel Try.prog 71 1 := ⟨by kernel_rfl⟩
instance : Siz Try.prog 71 1 := ⟨Try.sizeOf71⟩
instance : Agg Try.prog 71 false := ⟨Try.isAgg71⟩
instance : Zer Try.prog 71 (.nilFunc) := ⟨Try.zeroValue71⟩
instance : Inf Try.prog 71 1 8 (.nilFunc) := ⟨inf_of (by kernel_rfl)⟩
instance : Cel Try.prog 72 3 := ⟨by kernel_rfl⟩
instance : Siz Try.prog 72 3 := ⟨Try.sizeOf72⟩
instance : Agg Try.prog 72 true := ⟨Try.isAgg72⟩
instance : Zer Try.prog 72 (.agg #[.int .i64 0, .int .i64 0, .int .i64 0]) := ⟨Try.zeroValue72⟩
instance : Inf Try.prog 72 3 24 (.agg #[.int .i64 0, .int .i64 0, .int .i64 0]) := ⟨inf_of (by kernel_rfl)⟩
instance : Plc Try.prog 72 [(0, 1), (1, 1), (2, 1)] := ⟨⟨_, Try.runUnderlying72, fun w => by simp [Try.sizeOf2, Try.sizeOf3]⟩⟩
instance : Fld Try.prog 72 0 0 := ⟨fun w a => by simp [Instr.fieldAt, Instr.sureAddr, fieldPlace, Try.runUnderlying72, Try.sizeOf2]⟩
instance : Fld Try.prog 72 1 1 := ⟨fun w a => by simp [Instr.fieldAt, Instr.sureAddr, fieldPlace, Try.runUnderlying72, Try.sizeOf3]⟩
instance : Fld Try.prog 72 2 2 := ⟨fun w a => by simp [Instr.fieldAt, Instr.sureAddr, fieldPlace, Try.runUnderlying72, Try.sizeOf3]⟩
instance : Cel Try.prog 73 3 := ⟨by kernel_rfl⟩
instance : Siz Try.prog 73 3 := ⟨Try.sizeOf73⟩
instance : Agg Try.prog 73 true := ⟨Try.isAgg73⟩
instance : Zer Try.prog 73 (.agg #[.int .i64 0, .int .i64 0, .int .i64 0]) := ⟨Try.zeroValue73⟩
instance : Inf Try.prog 73 3 24 (.agg #[.int .i64 0, .int .i64 0, .int .i64 0]) := ⟨inf_of (by kernel_rfl)⟩
instance : Plc Try.prog 73 [(0, 1), (1, 1), (2, 1)] := ⟨⟨_, Try.runUnderlying73, fun w => by simp [Try.sizeOf2, Try.sizeOf3]⟩⟩
instance : Fld Try.prog 73 0 0 := ⟨fun w a => by simp [Instr.fieldAt, Instr.sureAddr, fieldPlace, Try.runUnderlying73, Try.sizeOf2]⟩
instance : Fld Try.prog 73 1 1 := ⟨fun w a => by simp [Instr.fieldAt, Instr.sureAddr, fieldPlace, Try.runUnderlying73, Try.sizeOf3]⟩
instance : Fld Try.prog 73 2 2 := ⟨fun w a => by simp [Instr.fieldAt, Instr.sureAddr, fieldPlace, Try.runUnderlying73, Try.sizeOf3]⟩
instance : Cel Try.prog 74 3 := ⟨by kernel_rfl⟩
instance : Siz Try.prog 74 3 := ⟨Try.sizeOf74⟩
instance : Agg Try.prog 74 true := ⟨Try.isAgg74⟩
instance : Zer Try.prog 74 (.agg #[.int .i64 0, .int .i64 0, .int .i64 0]) := ⟨Try.zeroValue74⟩
instance : Inf Try.prog 74 3 24 (.agg #[.int .i64 0, .int .i64 0, .int .i64 0]) := ⟨inf_of (by kernel_rfl)⟩
instance : Plc Try.prog 74 [(0, 1), (1, 1), (2, 1)] := ⟨⟨_, Try.runUnderlying74, fun w => by simp [Try.sizeOf2, Try.sizeOf3]⟩⟩
instance : Fld Try.prog 74 0 0 := ⟨fun w a => by simp [Instr.fieldAt, Instr.sureAddr, fieldPlace, Try.runUnderlying74, Try.sizeOf2]⟩
instance : Fld Try.prog 74 1 1 := ⟨fun w a => by simp [Instr.fieldAt, Instr.sureAddr, fieldPlace, Try.runUnderlying74, Try.sizeOf3]⟩
instance : Fld Try.prog 74 2 2 := ⟨fun w a => by simp [Instr.fieldAt, Instr.sureAddr, fieldPlace, Try.runUnderlying74, Try.sizeOf3]⟩
instance : Cel Try.prog 75 1 := ⟨by kernel_rfl⟩
instance : Siz Try.prog 75 1 := ⟨Try.sizeOf75⟩
instance : Agg Try.prog 75 false := ⟨Try.isAgg75⟩
instance : Zer Try.prog 75 (.nilFunc) := ⟨Try.zeroValue75⟩
instance : Inf Try.prog 75 1 8 (.nilFunc) := ⟨inf_of (by kernel_rfl)⟩
instance : Cel Try.prog 76 1 := ⟨by kernel_rfl⟩
instance : Siz Try.prog 76 1 := ⟨Try.sizeOf76⟩
instance : Cel Try.prog 77 1 := ⟨by kernel_rfl⟩
instance : Siz Try.prog 77 1 := ⟨Try.sizeOf77⟩
instance : Agg Try.prog 77 false := ⟨Try.isAgg77⟩
instance : Zer Try.prog 77 (.nilFunc) := ⟨Try.zeroValue77⟩
instance : Inf Try.prog 77 1 8 (.nilFunc) := ⟨inf_of (by kernel_rfl)⟩
instance : Cel Try.prog 78 5 := ⟨by kernel_rfl⟩
instance : Siz Try.prog 78 5 := ⟨Try.sizeOf78⟩
instance : Agg Try.prog 78 true := ⟨Try.isAgg78⟩
instance : Zer Try.prog 78 (.agg #[.bool false, .int .i64 0, .int .i64 0, .int .i64 0, .string ⟨#[]⟩]) := ⟨Try.zeroValue78⟩
instance : Inf Try.prog 78 5 48 (.agg #[.bool false, .int .i64 0, .int .i64 0, .int .i64 0, .string ⟨#[]⟩]) := ⟨inf_of (by kernel_rfl)⟩
instance : Plc Try.prog 78 [(0, 1), (1, 1), (2, 3)] := ⟨⟨_, Try.runUnderlying78, fun w => by simp [Try.sizeOf2, Try.sizeOf34, Try.sizeOf4]⟩⟩
instance : Fld Try.prog 78 0 0 := ⟨fun w a => by simp [Instr.fieldAt, Instr.sureAddr, fieldPlace, Try.runUnderlying78, Try.sizeOf4]⟩
instance : Fld Try.prog 78 1 1 := ⟨fun w a => by simp [Instr.fieldAt, Instr.sureAddr, fieldPlace, Try.runUnderlying78, Try.sizeOf2]⟩
instance : Fld Try.prog 78 2 2 := ⟨fun w a => by simp [Instr.fieldAt, Instr.sureAddr, fieldPlace, Try.runUnderlying78, Try.sizeOf34]⟩
instance : Cel Try.prog 79 5 := ⟨by kernel_rfl⟩
instance : Siz Try.prog 79 5 := ⟨Try.sizeOf79⟩
instance : Agg Try.prog 79 true := ⟨Try.isAgg79⟩
instance : Zer Try.prog 79 (.agg #[.bool false, .int .i64 0, .int .i64 0, .int .i64 0, .string ⟨#[]⟩]) := ⟨Try.zeroValue79⟩
instance : Inf Try.prog 79 5 48 (.agg #[.bool false, .int .i64 0, .int .i64 0, .int .i64 0, .string ⟨#[]⟩]) := ⟨inf_of (by kernel_rfl)⟩
instance : Plc Try.prog 79 [(0, 1), (1, 1), (2, 3)] := ⟨⟨_, Try.runUnderlying79, fun w => by simp [Try.sizeOf2, Try.sizeOf34, Try.sizeOf4]⟩⟩
instance : Fld Try.prog 79 0 0 := ⟨fun w a => by simp [Instr.fieldAt, Instr.sureAddr, fieldPlace, Try.runUnderlying79, Try.sizeOf4]⟩
instance : Fld Try.prog 79 1 1 := ⟨fun w a => by simp [Instr.fieldAt, Instr.sureAddr, fieldPlace, Try.runUnderlying79, Try.sizeOf2]⟩
instance : Fld Try.prog 79 2 2 := ⟨fun w a => by simp [Instr.fieldAt, Instr.sureAddr, fieldPlace, Try.runUnderlying79, Try.sizeOf34]⟩
instance : Und Try.prog 80 (.slice 79) := ⟨Try.underlying80⟩
instance : Cel Try.prog 80 1 := ⟨by kernel_rfl⟩
instance : Siz Try.prog 80 1 := ⟨Try.sizeOf80⟩
instance : Agg Try.prog 80 false := ⟨Try.isAgg80⟩
instance : Zer Try.prog 80 (.slice none 0 0) := ⟨Try.zeroValue80⟩
instance : Inf Try.prog 80 1 24 (.slice none 0 0) := ⟨inf_of (by kernel_rfl)⟩
instance : Cel Try.prog 81 5 := ⟨by kernel_rfl⟩
instance : Siz Try.prog 81 5 := ⟨Try.sizeOf81⟩
instance : Agg Try.prog 81 true := ⟨Try.isAgg81⟩
instance : Zer Try.prog 81 (.agg #[.int .i64 0, .int .i64 0, .int .i64 0, .bool false, .bool false]) := ⟨Try.zeroValue81⟩
instance : Inf Try.prog 81 5 32 (.agg #[.int .i64 0, .int .i64 0, .int .i64 0, .bool false, .bool false]) := ⟨inf_of (by kernel_rfl)⟩
instance : Plc Try.prog 81 [(0, 1), (1, 1), (2, 1), (3, 1), (4, 1)] := ⟨⟨_, Try.runUnderlying81, fun w => by simp [Try.sizeOf2, Try.sizeOf4]⟩⟩
instance : Fld Try.prog 81 0 0 := ⟨fun w a => by simp [Instr.fieldAt, Instr.sureAddr, fieldPlace, Try.runUnderlying81, Try.sizeOf2]⟩
instance : Fld Try.prog 81 1 1 := ⟨fun w a => by simp [Instr.fieldAt, Instr.sureAddr, fieldPlace, Try.runUnderlying81, Try.sizeOf2]⟩
instance : Fld Try.prog 81 2 2 := ⟨fun w a => by simp [Instr.fieldAt, Instr.sureAddr, fieldPlace, Try.runUnderlying81, Try.sizeOf2]⟩
instance : Fld Try.prog 81 3 3 := ⟨fun w a => by simp [Instr.fieldAt, Instr.sureAddr, fieldPlace, Try.runUnderlying81, Try.sizeOf4]⟩
instance : Fld Try.prog 81 4 4 := ⟨fun w a => by simp [Instr.fieldAt, Instr.sureAddr, fieldPlace, Try.runUnderlying81, Try.sizeOf4]⟩
instance : Cel Try.prog 82 5 := ⟨by kernel_rfl⟩
instance : Siz Try.prog 82 5 := ⟨Try.sizeOf82⟩
instance : Agg Try.prog 82 true := ⟨Try.isAgg82⟩
instance : Zer Try.prog 82 (.agg #[.int .i64 0, .int .i64 0, .int .i64 0, .bool false, .bool false]) := ⟨Try.zeroValue82⟩
instance : Inf Try.prog 82 5 32 (.agg #[.int .i64 0, .int .i64 0, .int .i64 0, .bool false, .bool false]) := ⟨inf_of (by kernel_rfl)⟩
instance : Plc Try.prog 82 [(0, 1), (1, 1), (2, 1), (3, 1), (4, 1)] := ⟨⟨_, Try.runUnderlying82, fun w => by simp [Try.sizeOf2, Try.sizeOf4]⟩⟩
instance : Fld Try.prog 82 0 0 := ⟨fun w a => by simp [Instr.fieldAt, Instr.sureAddr, fieldPlace, Try.runUnderlying82, Try.sizeOf2]⟩
instance : Fld Try.prog 82 1 1 := ⟨fun w a => by simp [Instr.fieldAt, Instr.sureAddr, fieldPlace, Try.runUnderlying82, Try.sizeOf2]⟩
instance : Fld Try.prog 82 2 2 := ⟨fun w a => by simp [Instr.fieldAt, Instr.sureAddr, fieldPlace, Try.runUnderlying82, Try.sizeOf2]⟩
instance : Fld Try.prog 82 3 3 := ⟨fun w a => by simp [Instr.fieldAt, Instr.sureAddr, fieldPlace, Try.runUnderlying82, Try.sizeOf4]⟩
instance : Fld Try.prog 82 4 4 := ⟨fun w a => by simp [Instr.fieldAt, Instr.sureAddr, fieldPlace, Try.runUnderlying82, Try.sizeOf4]⟩
instance : Und Try.prog 83 (.pointer 140) := ⟨Try.underlying83⟩
instance : Cel Try.prog 83 1 := ⟨by kernel_rfl⟩
instance : Siz Try.prog 83 1 := ⟨Try.sizeOf83⟩
instance : Agg Try.prog 83 false := ⟨Try.isAgg83⟩
instance : Zer Try.prog 83 (.pointer none) := ⟨Try.zeroValue83⟩
instance : Inf Try.prog 83 1 8 (.pointer none) := ⟨inf_of (by kernel_rfl)⟩
instance : Und Try.prog 84 (.array 5 83) := ⟨Try.underlying84⟩
instance : Cel Try.prog 84 5 := ⟨by kernel_rfl⟩
instance : Siz Try.prog 84 5 := ⟨Try.sizeOf84⟩
instance : Agg Try.prog 84 true := ⟨Try.isAgg84⟩
instance : Zer Try.prog 84 (.agg #[.pointer none, .pointer none, .pointer none, .pointer none, .pointer none]) := ⟨Try.zeroValue84⟩
instance : Inf Try.prog 84 5 40 (.agg #[.pointer none, .pointer none, .pointer none, .pointer none, .pointer none]) := ⟨inf_of (by kernel_rfl)⟩
instance : Cel Try.prog 85 5 := ⟨by kernel_rfl⟩
instance : Siz Try.prog 85 5 := ⟨Try.sizeOf85⟩
instance : Agg Try.prog 85 true := ⟨Try.isAgg85⟩
instance : Zer Try.prog 85 (.agg #[.pointer none, .pointer none, .pointer none, .pointer none, .pointer none]) := ⟨Try.zeroValue85⟩
instance : Inf Try.prog 85 5 40 (.agg #[.pointer none, .pointer none, .pointer none, .pointer none, .pointer none]) := ⟨inf_of (by kernel_rfl)⟩
instance : Plc Try.prog 85 [(0, 5)] := ⟨⟨_, Try.runUnderlying85, fun w => by simp [Try.sizeOf84]⟩⟩
instance : Fld Try.prog 85 0 0 := ⟨fun w a => by simp [Instr.fieldAt, Instr.sureAddr, fieldPlace, Try.runUnderlying85, Try.sizeOf84]⟩
instance : Cel Try.prog 86 5 := ⟨by kernel_rfl⟩
instance : Siz Try.prog 86 5 := ⟨Try.sizeOf86⟩
instance : Agg Try.prog 86 true := ⟨Try.isAgg86⟩
instance : Zer Try.prog 86 (.agg #[.pointer none, .pointer none, .pointer none, .pointer none, .pointer none]) := ⟨Try.zeroValue86⟩
instance : Inf Try.prog 86 5 40 (.agg #[.pointer none, .pointer none, .pointer none, .pointer none, .pointer none]) := ⟨inf_of (by kernel_rfl)⟩
instance : Plc Try.prog 86 [(0, 5)] := ⟨⟨_, Try.runUnderlying86, fun w => by simp [Try.sizeOf84]⟩⟩
instance : Fld Try.prog 86 0 0 := ⟨fun w a => by simp [Instr.fieldAt, Instr.sureAddr, fieldPlace, Try.runUnderlying86, Try.sizeOf84]⟩
instance : Cel Try.prog 87 1 := ⟨by kernel_rfl⟩
instance : Siz Try.prog 87 1 := ⟨Try.sizeOf87⟩
instance : Agg Try.prog 87 false := ⟨Try.isAgg87⟩
instance : Zer Try.prog 87 (.nilFunc) := ⟨Try.zeroValue87⟩
instance : Inf Try.prog 87 1 8 (.nilFunc) := ⟨inf_of (by kernel_rfl)⟩
instance : Und Try.prog 88 (.slice 5) := ⟨Try.underlying88⟩
instance : Cel Try.prog 88 1 := ⟨by kernel_rfl⟩
instance : Siz Try.prog 88 1 := ⟨Try.sizeOf88⟩
instance : Agg Try.prog 88 false := ⟨Try.isAgg88⟩
instance : Zer Try.prog 88 (.slice none 0 0) := ⟨Try.zeroValue88⟩
instance : Inf Try.prog 88 1 24 (.slice none 0 0) := ⟨inf_of (by kernel_rfl)⟩
instance : Cel Try.prog 89 1 := ⟨by kernel_rfl⟩
instance : Siz Try.prog 89 1 := ⟨Try.sizeOf89⟩
instance : Cel Try.prog 90 1 := ⟨by kernel_rfl⟩
instance : Siz Try.prog 90 1 := ⟨Try.sizeOf90⟩
instance : Agg Try.prog 90 false := ⟨Try.isAgg90⟩
instance : Zer Try.prog 90 (.nilFunc) := ⟨Try.zeroValue90⟩
instance : Inf Try.prog 90 1 8 (.nilFunc) := ⟨inf_of (by kernel_rfl)⟩
instance : Cel Try.prog 91 1 := ⟨by kernel_rfl⟩
instance : Siz Try.prog 91 1 := ⟨Try.sizeOf91⟩
instance : Cel Try.prog 92 1 := ⟨by kernel_rfl⟩
instance : Siz Try.prog 92 1 := ⟨Try.sizeOf92⟩
instance : Agg Try.prog 92 false := ⟨Try.isAgg92⟩
instance : Zer Try.prog 92 (.nilFunc) := ⟨Try.zeroValue92⟩
instance : Inf Try.prog 92 1 8 (.nilFunc) := ⟨inf_of (by kernel_rfl)⟩
instance : Cel Try.prog 93 1 := ⟨by kernel_rfl⟩
instance : Siz Try.prog 93 1 := ⟨Try.sizeOf93⟩
instance : Agg Try.prog 93 false := ⟨Try.isAgg93⟩
instance : Zer Try.prog 93 (.nilFunc) := ⟨Try.zeroValue93⟩
instance : Inf Try.prog 93 1 8 (.nilFunc) := ⟨inf_of (by kernel_rfl)⟩
instance : Cel Try.prog 94 1 := ⟨by kernel_rfl⟩
instance : Siz Try.prog 94 1 := ⟨Try.sizeOf94⟩
instance : Agg Try.prog 94 false := ⟨Try.isAgg94⟩
instance : Zer Try.prog 94 (.nilFunc) := ⟨Try.zeroValue94⟩
instance : Inf Try.prog 94 1 8 (.nilFunc) := ⟨inf_of (by kernel_rfl)⟩
instance : Cel Try.prog 95 1 := ⟨by kernel_rfl⟩
instance : Siz Try.prog 95 1 := ⟨Try.sizeOf95⟩
instance : Agg Try.prog 95 false := ⟨Try.isAgg95⟩
instance : Zer Try.prog 95 (.nilFunc) := ⟨Try.zeroValue95⟩
instance : Inf Try.prog 95 1 8 (.nilFunc) := ⟨inf_of (by kernel_rfl)⟩
instance : Cel Try.prog 96 1 := ⟨by kernel_rfl⟩
instance : Siz Try.prog 96 1 := ⟨Try.sizeOf96⟩
instance : Agg Try.prog 96 false := ⟨Try.isAgg96⟩
instance : Zer Try.prog 96 (.nilFunc) := ⟨Try.zeroValue96⟩
instance : Inf Try.prog 96 1 8 (.nilFunc) := ⟨inf_of (by kernel_rfl)⟩
instance : Cel Try.prog 97 1 := ⟨by kernel_rfl⟩
instance : Siz Try.prog 97 1 := ⟨Try.sizeOf97⟩
instance : Agg Try.prog 97 false := ⟨Try.isAgg97⟩
instance : Zer Try.prog 97 (.nilFunc) := ⟨Try.zeroValue97⟩
instance : Inf Try.prog 97 1 8 (.nilFunc) := ⟨inf_of (by kernel_rfl)⟩
instance : Cel Try.prog 98 2 := ⟨by kernel_rfl⟩
instance : Siz Try.prog 98 2 := ⟨Try.sizeOf98⟩
instance : Agg Try.prog 98 true := ⟨Try.isAgg98⟩
instance : Zer Try.prog 98 (.agg #[.slice none 0 0, .slice none 0 0]) := ⟨Try.zeroValue98⟩
instance : Inf Try.prog 98 2 48 (.agg #[.slice none 0 0, .slice none 0 0]) := ⟨inf_of (by kernel_rfl)⟩
instance : Plc Try.prog 98 [(0, 1), (1, 1)] := ⟨⟨_, Try.runUnderlying98, fun w => by simp [Try.sizeOf88]⟩⟩
instance : Fld Try.prog 98 0 0 := ⟨fun w a => by simp [Instr.fieldAt, Instr.sureAddr, fieldPlace, Try.runUnderlying98, Try.sizeOf88]⟩
instance : Fld Try.prog 98 1 1 := ⟨fun w a => by simp [Instr.fieldAt, Instr.sureAddr, fieldPlace, Try.runUnderlying98, Try.sizeOf88]⟩
instance : Cel Try.prog 99 2 := ⟨by kernel_rfl⟩
instance : Siz Try.prog 99 2 := ⟨Try.sizeOf99⟩
instance : Agg Try.prog 99 true := ⟨Try.isAgg99⟩
instance : Zer Try.prog 99 (.agg #[.slice none 0 0, .slice none 0 0]) := ⟨Try.zeroValue99⟩
instance : Inf Try.prog 99 2 48 (.agg #[.slice none 0 0, .slice none 0 0]) := ⟨inf_of (by kernel_rfl)⟩
instance : Plc Try.prog 99 [(0, 1), (1, 1)] := ⟨⟨_, Try.runUnderlying99, fun w => by simp [Try.sizeOf88]⟩⟩
instance : Fld Try.prog 99 0 0 := ⟨fun w a => by simp [Instr.fieldAt, Instr.sureAddr, fieldPlace, Try.runUnderlying99, Try.sizeOf88]⟩
instance : Fld Try.prog 99 1 1 := ⟨fun w a => by simp [Instr.fieldAt, Instr.sureAddr, fieldPlace, Try.runUnderlying99, Try.sizeOf88]⟩
instance : Cel Try.prog 100 1 := ⟨by kernel_rfl⟩
instance : Siz Try.prog 100 1 := ⟨Try.sizeOf100⟩
instance : Cel Try.prog 101 1 := ⟨by kernel_rfl⟩
instance : Siz Try.prog 101 1 := ⟨Try.sizeOf101⟩
instance : Agg Try.prog 101 false := ⟨Try.isAgg101⟩
instance : Zer Try.prog 101 (.nilFunc) := ⟨Try.zeroValue101⟩
instance : Inf Try.prog 101 1 8 (.nilFunc) := ⟨inf_of (by kernel_rfl)⟩
instance : Cel Try.prog 102 1 := ⟨by kernel_rfl⟩
instance : Siz Try.prog 102 1 := ⟨Try.sizeOf102⟩
instance : Cel Try.prog 103 1 := ⟨by kernel_rfl⟩
instance : Siz Try.prog 103 1 := ⟨Try.sizeOf103⟩
instance : Agg Try.prog 103 false := ⟨Try.isAgg103⟩
instance : Zer Try.prog 103 (.nilFunc) := ⟨Try.zeroValue103⟩
instance : Inf Try.prog 103 1 8 (.nilFunc) := ⟨inf_of (by kernel_rfl)⟩
instance : Cel Try.prog 104 1 := ⟨by kernel_rfl⟩
instance : Siz Try.prog 104 1 := ⟨Try.sizeOf104⟩
instance : Cel Try.prog 105 1 := ⟨by kernel_rfl⟩
instance : Siz Try.prog 105 1 := ⟨Try.sizeOf105⟩
instance : Agg Try.prog 105 false := ⟨Try.isAgg105⟩
instance : Zer Try.prog 105 (.nilFunc) := ⟨Try.zeroValue105⟩
instance : Inf Try.prog 105 1 8 (.nilFunc) := ⟨inf_of (by kernel_rfl)⟩
instance : Cel Try.prog 106 1 := ⟨by kernel_rfl⟩
instance : Siz Try.prog 106 1 := ⟨Try.sizeOf106⟩
instance : Agg Try.prog 106 false := ⟨Try.isAgg106⟩
instance : Zer Try.prog 106 (.nilFunc) := ⟨Try.zeroValue106⟩
instance : Inf Try.prog 106 1 8 (.nilFunc) := ⟨inf_of (by kernel_rfl)⟩
instance : Cel Try.prog 107 1 := ⟨by kernel_rfl⟩
instance : Siz Try.prog 107 1 := ⟨Try.sizeOf107⟩
instance : Cel Try.prog 108 1 := ⟨by kernel_rfl⟩
instance : Siz Try.prog 108 1 := ⟨Try.sizeOf108⟩
instance : Agg Try.prog 108 false := ⟨Try.isAgg108⟩
instance : Zer Try.prog 108 (.nilFunc) := ⟨Try.zeroValue108⟩
instance : Inf Try.prog 108 1 8 (.nilFunc) := ⟨inf_of (by kernel_rfl)⟩
instance : Und Try.prog 109 (.slice 114) := ⟨Try.underlying109⟩
instance : Cel Try.prog 109 1 := ⟨by kernel_rfl⟩
instance : Siz Try.prog 109 1 := ⟨Try.sizeOf109⟩
instance : Agg Try.prog 109 false := ⟨Try.isAgg109⟩
instance : Zer Try.prog 109 (.slice none 0 0) := ⟨Try.zeroValue109⟩
instance : Inf Try.prog 109 1 24 (.slice none 0 0) := ⟨inf_of (by kernel_rfl)⟩
instance : Cel Try.prog 110 6 := ⟨by kernel_rfl⟩
instance : Siz Try.prog 110 6 := ⟨Try.sizeOf110⟩
instance : Agg Try.prog 110 true := ⟨Try.isAgg110⟩
instance : Zer Try.prog 110 (.agg #[.int .i64 0, .int .i64 0, .int .i64 0, .int .i64 0, .string ⟨#[]⟩, .slice none 0 0]) := ⟨Try.zeroValue110⟩
instance : Inf Try.prog 110 6 72 (.agg #[.int .i64 0, .int .i64 0, .int .i64 0, .int .i64 0, .string ⟨#[]⟩, .slice none 0 0]) := ⟨inf_of (by kernel_rfl)⟩
instance : Plc Try.prog 110 [(0, 1), (1, 1), (2, 3), (5, 1)] := ⟨⟨_, Try.runUnderlying110, fun w => by simp [Try.sizeOf109, Try.sizeOf2, Try.sizeOf34]⟩⟩
instance : Fld Try.prog 110 0 0 := ⟨fun w a => by simp [Instr.fieldAt, Instr.sureAddr, fieldPlace, Try.runUnderlying110, Try.sizeOf2]⟩
instance : Fld Try.prog 110 1 1 := ⟨fun w a => by simp [Instr.fieldAt, Instr.sureAddr, fieldPlace, Try.runUnderlying110, Try.sizeOf2]⟩
instance : Fld Try.prog 110 2 2 := ⟨fun w a => by simp [Instr.fieldAt, Instr.sureAddr, fieldPlace, Try.runUnderlying110, Try.sizeOf34]⟩
instance : Fld Try.prog 110 3 5 := ⟨fun w a => by simp [Instr.fieldAt, Instr.sureAddr, fieldPlace, Try.runUnderlying110, Try.sizeOf109]⟩
instance : Cel Try.prog 111 6 := ⟨by kernel_rfl⟩
instance : Siz Try.prog 111 6 := ⟨Try.sizeOf111⟩
instance : Agg Try.prog 111 true := ⟨Try.isAgg111⟩
instance : Zer Try.prog 111 (.agg #[.int .i64 0, .int .i64 0, .int .i64 0, .int .i64 0, .string ⟨#[]⟩, .slice none 0 0]) := ⟨Try.zeroValue111⟩
instance : Inf Try.prog 111 6 72 (.agg #[.int .i64 0, .int .i64 0, .int .i64 0, .int .i64 0, .string ⟨#[]⟩, .slice none 0 0]) := ⟨inf_of (by kernel_rfl)⟩
instance : Plc Try.prog 111 [(0, 1), (1, 1), (2, 3), (5, 1)] := ⟨⟨_, Try.runUnderlying111, fun w => by simp [Try.sizeOf109, Try.sizeOf2, Try.sizeOf34]⟩⟩
instance : Fld Try.prog 111 0 0 := ⟨fun w a => by simp [Instr.fieldAt, Instr.sureAddr, fieldPlace, Try.runUnderlying111, Try.sizeOf2]⟩
instance : Fld Try.prog 111 1 1 := ⟨fun w a => by simp [Instr.fieldAt, Instr.sureAddr, fieldPlace, Try.runUnderlying111, Try.sizeOf2]⟩
instance : Fld Try.prog 111 2 2 := ⟨fun w a => by simp [Instr.fieldAt, Instr.sureAddr, fieldPlace, Try.runUnderlying111, Try.sizeOf34]⟩
instance : Fld Try.prog 111 3 5 := ⟨fun w a => by simp [Instr.fieldAt, Instr.sureAddr, fieldPlace, Try.runUnderlying111, Try.sizeOf109]⟩
instance : Cel Try.prog 112 1 := ⟨by kernel_rfl⟩
instance : Siz Try.prog 112 1 := ⟨Try.sizeOf112⟩
instance : Agg Try.prog 112 false := ⟨Try.isAgg112⟩
instance : Zer Try.prog 112 (.nilFunc) := ⟨Try.zeroValue112⟩
instance : Inf Try.prog 112 1 8 (.nilFunc) := ⟨inf_of (by kernel_rfl)⟩
instance : Cel Try.prog 113 2 := ⟨by kernel_rfl⟩
instance : Siz Try.prog 113 2 := ⟨Try.sizeOf113⟩
instance : Agg Try.prog 113 true := ⟨Try.isAgg113⟩
instance : Zer Try.prog 113 (.agg #[.int .i64 0, .int .i64 0]) := ⟨Try.zeroValue113⟩
instance : Inf Try.prog 113 2 16 (.agg #[.int .i64 0, .int .i64 0]) := ⟨inf_of (by kernel_rfl)⟩
instance : Plc Try.prog 113 [(0, 1), (1, 1)] := ⟨⟨_, Try.runUnderlying113, fun w => by simp [Try.sizeOf2]⟩⟩
instance : Fld Try.prog 113 0 0 := ⟨fun w a => by simp [Instr.fieldAt, Instr.sureAddr, fieldPlace, Try.runUnderlying113, Try.sizeOf2]⟩
instance : Fld Try.prog 113 1 1 := ⟨fun w a => by simp [Instr.fieldAt, Instr.sureAddr, fieldPlace, Try.runUnderlying113, Try.sizeOf2]⟩
instance : Cel Try.prog 114 2 := ⟨by kernel_rfl⟩
instance : Siz Try.prog 114 2 := ⟨Try.sizeOf114⟩
instance : Agg Try.prog 114 true := ⟨Try.isAgg114⟩
instance : Zer Try.prog 114 (.agg #[.int .i64 0, .int .i64 0]) := ⟨Try.zeroValue114⟩
instance : Inf Try.prog 114 2 16 (.agg #[.int .i64 0, .int .i64 0]) := ⟨inf_of (by kernel_rfl)⟩
instance : Plc Try.prog 114 [(0, 1), (1, 1)] := ⟨⟨_, Try.runUnderlying114, fun w => by simp [Try.sizeOf2]⟩⟩
instance : Fld Try.prog 114 0 0 := ⟨fun w a => by simp [Instr.fieldAt, Instr.sureAddr, fieldPlace, Try.runUnderlying114, Try.sizeOf2]⟩
instance : Fld Try.prog 114 1 1 := ⟨fun w a => by simp [Instr.fieldAt, Instr.sureAddr, fieldPlace, Try.runUnderlying114, Try.sizeOf2]⟩
instance : Cel Try.prog 115 1 := ⟨by kernel_rfl⟩
instance : Siz Try.prog 115 1 := ⟨Try.sizeOf115⟩
instance : Agg Try.prog 115 false := ⟨Try.isAgg115⟩
instance : Zer Try.prog 115 (.nilFunc) := ⟨Try.zeroValue115⟩
instance : Inf Try.prog 115 1 8 (.nilFunc) := ⟨inf_of (by kernel_rfl)⟩
instance : Cel Try.prog 116 1 := ⟨by kernel_rfl⟩
instance : Siz Try.prog 116 1 := ⟨Try.sizeOf116⟩
instance : Agg Try.prog 116 false := ⟨Try.isAgg116⟩
instance : Zer Try.prog 116 (.nilFunc) := ⟨Try.zeroValue116⟩
instance : Inf Try.prog 116 1 8 (.nilFunc) := ⟨inf_of (by kernel_rfl)⟩
instance : Cel Try.prog 117 1 := ⟨by kernel_rfl⟩
instance : Siz Try.prog 117 1 := ⟨Try.sizeOf117⟩
instance : Agg Try.prog 117 false := ⟨Try.isAgg117⟩
instance : Zer Try.prog 117 (.nilFunc) := ⟨Try.zeroValue117⟩
instance : Inf Try.prog 117 1 8 (.nilFunc) := ⟨inf_of (by kernel_rfl)⟩
instance : Cel Try.prog 118 1 := ⟨by kernel_rfl⟩
instance : Siz Try.prog 118 1 := ⟨Try.sizeOf118⟩
instance : Agg Try.prog 118 false := ⟨Try.isAgg118⟩
instance : Zer Try.prog 118 (.nilFunc) := ⟨Try.zeroValue118⟩
instance : Inf Try.prog 118 1 8 (.nilFunc) := ⟨inf_of (by kernel_rfl)⟩
instance : Und Try.prog 119 (.slice 2) := ⟨Try.underlying119⟩
instance : Cel Try.prog 119 1 := ⟨by kernel_rfl⟩
instance : Siz Try.prog 119 1 := ⟨Try.sizeOf119⟩
instance : Agg Try.prog 119 false := ⟨Try.isAgg119⟩
instance : Zer Try.prog 119 (.slice none 0 0) := ⟨Try.zeroValue119⟩
instance : Inf Try.prog 119 1 24 (.slice none 0 0) := ⟨inf_of (by kernel_rfl)⟩
instance : Cel Try.prog 120 1 := ⟨by kernel_rfl⟩
instance : Siz Try.prog 120 1 := ⟨Try.sizeOf120⟩
instance : Agg Try.prog 120 false := ⟨Try.isAgg120⟩
instance : Zer Try.prog 120 (.nilFunc) := ⟨Try.zeroValue120⟩
instance : Inf Try.prog 120 1 8 (.nilFunc) := ⟨inf_of (by kernel_rfl)⟩
instance : Cel Try.prog 121 1 := ⟨by kernel_rfl⟩
instance : Siz Try.prog 121 1 := ⟨Try.sizeOf121⟩
instance : Agg Try.prog 121 false := ⟨Try.isAgg121⟩
instance : Zer Try.prog 121 (.nilFunc) := ⟨Try.zeroValue121⟩
instance : Inf Try.prog 121 1 8 (.nilFunc) := ⟨inf_of (by kernel_rfl)⟩
instance : Cel Try.prog 122 1 := ⟨by kernel_rfl⟩
instance : Siz Try.prog 122 1 := ⟨Try.sizeOf122⟩
instance : Agg Try.prog 122 false := ⟨Try.isAgg122⟩
instance : Zer Try.prog 122 (.nilFunc) := ⟨Try.zeroValue122⟩
instance : Inf Try.prog 122 1 8 (.nilFunc) := ⟨inf_of (by kernel_rfl)⟩
instance : Cel Try.prog 123 1 := ⟨by kernel_rfl⟩
instance : Siz Try.prog 123 1 := ⟨Try.sizeOf123⟩
instance : Cel Try.prog 124 1 := ⟨by kernel_rfl⟩
instance : Siz Try.prog 124 1 := ⟨Try.sizeOf124⟩
instance : Agg Try.prog 124 false := ⟨Try.isAgg124⟩
instance : Zer Try.prog 124 (.nilFunc) := ⟨Try.zeroValue124⟩
instance : Inf Try.prog 124 1 8 (.nilFunc) := ⟨inf_of (by kernel_rfl)⟩
instance : Cel Try.prog 125 1 := ⟨by kernel_rfl⟩
instance : Siz Try.prog 125 1 := ⟨Try.sizeOf125⟩
instance : Agg Try.prog 125 false := ⟨Try.isAgg125⟩
instance : Zer Try.prog 125 (.nilFunc) := ⟨Try.zeroValue125⟩
instance : Inf Try.prog 125 1 8 (.nilFunc) := ⟨inf_of (by kernel_rfl)⟩
instance : Cel Try.prog 126 1 := ⟨by kernel_rfl⟩
instance : Siz Try.prog 126 1 := ⟨Try.sizeOf126⟩
instance : Agg Try.prog 126 false := ⟨Try.isAgg126⟩
instance : Zer Try.prog 126 (.nilFunc) := ⟨Try.zeroValue126⟩
instance : Inf Try.prog 126 1 8 (.nilFunc) := ⟨inf_of (by kernel_rfl)⟩
instance : Cel Try.prog 127 1 := ⟨by kernel_rfl⟩
instance : Siz Try.prog 127 1 := ⟨Try.sizeOf127⟩
instance : Agg Try.prog 127 false := ⟨Try.isAgg127⟩
instance : Zer Try.prog 127 (.nilFunc) := ⟨Try.zeroValue127⟩
instance : Inf Try.prog 127 1 8 (.nilFunc) := ⟨inf_of (by kernel_rfl)⟩
instance : Cel Try.prog 128 1 := ⟨by kernel_rfl⟩
instance : Siz Try.prog 128 1 := ⟨Try.sizeOf128⟩
instance : Agg Try.prog 128 false := ⟨Try.isAgg128⟩
instance : Zer Try.prog 128 (.nilFunc) := ⟨Try.zeroValue128⟩
instance : Inf Try.prog 128 1 8 (.nilFunc) := ⟨inf_of (by kernel_rfl)⟩
instance : Cel Try.prog 129 1 := ⟨by kernel_rfl⟩
instance : Siz Try.prog 129 1 := ⟨Try.sizeOf129⟩
instance : Agg Try.prog 129 false := ⟨Try.isAgg129⟩
instance : Zer Try.prog 129 (.nilFunc) := ⟨Try.zeroValue129⟩
instance : Inf Try.prog 129 1 8 (.nilFunc) := ⟨inf_of (by kernel_rfl)⟩
instance : Cel Try.prog 130 1 := ⟨by kernel_rfl⟩
instance : Siz Try.prog 130 1 := ⟨Try.sizeOf130⟩
instance : Agg Try.prog 130 false := ⟨Try.isAgg130⟩
instance : Zer Try.prog 130 (.nilFunc) := ⟨Try.zeroValue130⟩
instance : Inf Try.prog 130 1 8 (.nilFunc) := ⟨inf_of (by kernel_rfl)⟩
instance : Cel Try.prog 131 1 := ⟨by kernel_rfl⟩
instance : Siz Try.prog 131 1 := ⟨Try.sizeOf131⟩
instance : Agg Try.prog 131 false := ⟨Try.isAgg131⟩
instance : Zer Try.prog 131 (.nilFunc) := ⟨Try.zeroValue131⟩
instance : Inf Try.prog 131 1 8 (.nilFunc) := ⟨inf_of (by kernel_rfl)⟩
instance : Cel Try.prog 132 1 := ⟨by kernel_rfl⟩
instance : Siz Try.prog 132 1 := ⟨Try.sizeOf132⟩
instance : Agg Try.prog 132 false := ⟨Try.isAgg132⟩
instance : Zer Try.prog 132 (.nilFunc) := ⟨Try.zeroValue132⟩
instance : Inf Try.prog 132 1 8 (.nilFunc) := ⟨inf_of (by kernel_rfl)⟩
instance : Und Try.prog 133 (.pointer 158) := ⟨Try.underlying133⟩
instance : Cel Try.prog 133 1 := ⟨by kernel_rfl⟩
instance : Siz Try.prog 133 1 := ⟨Try.sizeOf133⟩
instance : Agg Try.prog 133 false := ⟨Try.isAgg133⟩
instance : Zer Try.prog 133 (.pointer none) := ⟨Try.zeroValue133⟩
instance : Inf Try.prog 133 1 8 (.pointer none) := ⟨inf_of (by kernel_rfl)⟩
instance : Cel Try.prog 134 1 := ⟨by kernel_rfl⟩
instance : Siz Try.prog 134 1 := ⟨Try.sizeOf134⟩
instance : Agg Try.prog 134 false := ⟨Try.isAgg134⟩
instance : Zer Try.prog 134 (.nilFunc) := ⟨Try.zeroValue134⟩
instance : Inf Try.prog 134 1 8 (.nilFunc) := ⟨inf_of (by kernel_rfl)⟩
instance : Cel Try.prog 135 1 := ⟨by kernel_rfl⟩
instance : Siz Try.prog 135 1 := ⟨Try.sizeOf135⟩
instance : Agg Try.prog 135 false := ⟨Try.isAgg135⟩
instance : Zer Try.prog 135 (.nilFunc) := ⟨Try.zeroValue135⟩
instance : Inf Try.prog 135 1 8 (.nilFunc) := ⟨inf_of (by kernel_rfl)⟩
instance : Cel Try.prog 136 1 := ⟨by kernel_rfl⟩
instance : Siz Try.prog 136 1 := ⟨Try.sizeOf136⟩
instance : Agg Try.prog 136 false := ⟨Try.isAgg136⟩
instance : Zer Try.prog 136 (.nilFunc) := ⟨Try.zeroValue136⟩
instance : Inf Try.prog 136 1 8 (.nilFunc) := ⟨inf_of (by kernel_rfl)⟩
instance : Cel Try.prog 137 1 := ⟨by kernel_rfl⟩
instance : Siz Try.prog 137 1 := ⟨Try.sizeOf137⟩
instance : Agg Try.prog 137 false := ⟨Try.isAgg137⟩
instance : Zer Try.prog 137 (.nilFunc) := ⟨Try.zeroValue137⟩
instance : Inf Try.prog 137 1 8 (.nilFunc) := ⟨inf_of (by kernel_rfl)⟩
instance : Cel Try.prog 138 1 := ⟨by kernel_rfl⟩
instance : Siz Try.prog 138 1 := ⟨Try.sizeOf138⟩
instance : Agg Try.prog 138 false := ⟨Try.isAgg138⟩
instance : Zer Try.prog 138 (.nilFunc) := ⟨Try.zeroValue138⟩
instance : Inf Try.prog 138 1 8 (.nilFunc) := ⟨inf_of (by kernel_rfl)⟩
instance : Cel Try.prog 139 1 := ⟨by kernel_rfl⟩
instance : Siz Try.prog 139 1 := ⟨Try.sizeOf139⟩
instance : Agg Try.prog 139 true := ⟨Try.isAgg139⟩
instance : Zer Try.prog 139 (.agg #[.pointer none]) := ⟨Try.zeroValue139⟩
instance : Inf Try.prog 139 1 8 (.agg #[.pointer none]) := ⟨inf_of (by kernel_rfl)⟩
instance : Plc Try.prog 139 [(0, 1)] := ⟨⟨_, Try.runUnderlying139, fun w => by simp [Try.sizeOf133]⟩⟩
instance : Fld Try.prog 139 0 0 := ⟨fun w a => by simp [Instr.fieldAt, Instr.sureAddr, fieldPlace, Try.runUnderlying139, Try.sizeOf133]⟩
instance : Cel Try.prog 140 1 := ⟨by kernel_rfl⟩
instance : Siz Try.prog 140 1 := ⟨Try.sizeOf140⟩
instance : Agg Try.prog 140 true := ⟨Try.isAgg140⟩
instance : Zer Try.prog 140 (.agg #[.pointer none]) := ⟨Try.zeroValue140⟩
instance : Inf Try.prog 140 1 8 (.agg #[.pointer none]) := ⟨inf_of (by kernel_rfl)⟩
instance : Plc Try.prog 140 [(0, 1)] := ⟨⟨_, Try.runUnderlying140, fun w => by simp [Try.sizeOf133]⟩⟩
instance : Fld Try.prog 140 0 0 := ⟨fun w a => by simp [Instr.fieldAt, Instr.sureAddr, fieldPlace, Try.runUnderlying140, Try.sizeOf133]⟩
instance : Cel Try.prog 141 1 := ⟨by kernel_rfl⟩
instance : Siz Try.prog 141 1 := ⟨Try.sizeOf141⟩
instance : Agg Try.prog 141 false := ⟨Try.isAgg141⟩
instance : Zer Try.prog 141 (.nilFunc) := ⟨Try.zeroValue141⟩
instance : Inf Try.prog 141 1 8 (.nilFunc) := ⟨inf_of (by kernel_rfl)⟩
instance : Und Try.prog 142 (.slice 99) := ⟨Try.underlying142⟩
instance : Cel Try.prog 142 1 := ⟨by kernel_rfl⟩
instance : Siz Try.prog 142 1 := ⟨Try.sizeOf142⟩
instance : Agg Try.prog 142 false := ⟨Try.isAgg142⟩
instance : Zer Try.prog 142 (.slice none 0 0) := ⟨Try.zeroValue142⟩
instance : Inf Try.prog 142 1 24 (.slice none 0 0) := ⟨inf_of (by kernel_rfl)⟩
instance : Cel Try.prog 143 1 := ⟨by kernel_rfl⟩
instance : Siz Try.prog 143 1 := ⟨Try.sizeOf143⟩
instance : Agg Try.prog 143 false := ⟨Try.isAgg143⟩
instance : Zer Try.prog 143 (.nilFunc) := ⟨Try.zeroValue143⟩
instance : Inf Try.prog 143 1 8 (.nilFunc) := ⟨inf_of (by kernel_rfl)⟩
instance : Cel Try.prog 144 1 := ⟨by kernel_rfl⟩
instance : Siz Try.prog 144 1 := ⟨Try.sizeOf144⟩
instance : Agg Try.prog 144 false := ⟨Try.isAgg144⟩
instance : Zer Try.prog 144 (.nilFunc) := ⟨Try.zeroValue144⟩
instance : Inf Try.prog 144 1 8 (.nilFunc) := ⟨inf_of (by kernel_rfl)⟩
instance : Cel Try.prog 145 1 := ⟨by kernel_rfl⟩
instance : Siz Try.prog 145 1 := ⟨Try.sizeOf145⟩
instance : Agg Try.prog 145 false := ⟨Try.isAgg145⟩
instance : Zer Try.prog 145 (.nilFunc) := ⟨Try.zeroValue145⟩
instance : Inf Try.prog 145 1 8 (.nilFunc) := ⟨inf_of (by kernel_rfl)⟩
instance : Cel Try.prog 146 1 := ⟨by kernel_rfl⟩
instance : Siz Try.prog 146 1 := ⟨Try.sizeOf146⟩
instance : Agg Try.prog 146 false := ⟨Try.isAgg146⟩
instance : Zer Try.prog 146 (.nilFunc) := ⟨Try.zeroValue146⟩
instance : Inf Try.prog 146 1 8 (.nilFunc) := ⟨inf_of (by kernel_rfl)⟩
instance : Cel Try.prog 147 1 := ⟨by kernel_rfl⟩
instance : Siz Try.prog 147 1 := ⟨Try.sizeOf147⟩
instance : Agg Try.prog 147 false := ⟨Try.isAgg147⟩
instance : Zer Try.prog 147 (.nilFunc) := ⟨Try.zeroValue147⟩
instance : Inf Try.prog 147 1 8 (.nilFunc) := ⟨inf_of (by kernel_rfl)⟩
instance : Und Try.prog 148 (.slice 4) := ⟨Try.underlying148⟩
instance : Cel Try.prog 148 1 := ⟨by kernel_rfl⟩
instance : Siz Try.prog 148 1 := ⟨Try.sizeOf148⟩
instance : Agg Try.prog 148 false := ⟨Try.isAgg148⟩
instance : Zer Try.prog 148 (.slice none 0 0) := ⟨Try.zeroValue148⟩
instance : Inf Try.prog 148 1 24 (.slice none 0 0) := ⟨inf_of (by kernel_rfl)⟩
instance : Cel Try.prog 149 1 := ⟨by kernel_rfl⟩
instance : Siz Try.prog 149 1 := ⟨Try.sizeOf149⟩
instance : Agg Try.prog 149 false := ⟨Try.isAgg149⟩
instance : Zer Try.prog 149 (.nilFunc) := ⟨Try.zeroValue149⟩
instance : Inf Try.prog 149 1 8 (.nilFunc) := ⟨inf_of (by kernel_rfl)⟩
instance : Cel Try.prog 150 1 := ⟨by kernel_rfl⟩
instance : Siz Try.prog 150 1 := ⟨Try.sizeOf150⟩
instance : Agg Try.prog 150 false := ⟨Try.isAgg150⟩
instance : Zer Try.prog 150 (.nilFunc) := ⟨Try.zeroValue150⟩
instance : Inf Try.prog 150 1 8 (.nilFunc) := ⟨inf_of (by kernel_rfl)⟩
instance : Cel Try.prog 151 1 := ⟨by kernel_rfl⟩
instance : Siz Try.prog 151 1 := ⟨Try.sizeOf151⟩
instance : Agg Try.prog 151 false := ⟨Try.isAgg151⟩
instance : Zer Try.prog 151 (.nilFunc) := ⟨Try.zeroValue151⟩
instance : Inf Try.prog 151 1 8 (.nilFunc) := ⟨inf_of (by kernel_rfl)⟩
instance : Cel Try.prog 152 1 := ⟨by kernel_rfl⟩
instance : Siz Try.prog 152 1 := ⟨Try.sizeOf152⟩
instance : Cel Try.prog 153 1 := ⟨by kernel_rfl⟩
instance : Siz Try.prog 153 1 := ⟨Try.sizeOf153⟩
instance : Agg Try.prog 153 false := ⟨Try.isAgg153⟩
instance : Zer Try.prog 153 (.nilFunc) := ⟨Try.zeroValue153⟩
instance : Inf Try.prog 153 1 8 (.nilFunc) := ⟨inf_of (by kernel_rfl)⟩
instance : Cel Try.prog 154 1 := ⟨by kernel_rfl⟩
instance : Siz Try.prog 154 1 := ⟨Try.sizeOf154⟩
instance : Agg Try.prog 154 false := ⟨Try.isAgg154⟩
instance : Zer Try.prog 154 (.nilFunc) := ⟨Try.zeroValue154⟩
instance : Inf Try.prog 154 1 8 (.nilFunc) := ⟨inf_of (by kernel_rfl)⟩
instance : Cel Try.prog 155 1 := ⟨by kernel_rfl⟩
instance : Siz Try.prog 155 1 := ⟨Try.sizeOf155⟩
instance : Agg Try.prog 155 false := ⟨Try.isAgg155⟩
instance : Zer Try.prog 155 (.nilFunc) := ⟨Try.zeroValue155⟩
instance : Inf Try.prog 155 1 8 (.nilFunc) := ⟨inf_of (by kernel_rfl)⟩
instance : Cel Try.prog 156 1 := ⟨by kernel_rfl⟩
instance : Siz Try.prog 156 1 := ⟨Try.sizeOf156⟩
instance : Agg Try.prog 156 false := ⟨Try.isAgg156⟩
instance : Zer Try.prog 156 (.nilFunc) := ⟨Try.zeroValue156⟩
instance : Inf Try.prog 156 1 8 (.nilFunc) := ⟨inf_of (by kernel_rfl)⟩
instance : Cel Try.prog 157 6 := ⟨by kernel_rfl⟩
instance : Siz Try.prog 157 6 := ⟨Try.sizeOf157⟩
instance : Agg Try.prog 157 true := ⟨Try.isAgg157⟩
instance : Zer Try.prog 157 (.agg #[.slice none 0 0, .slice none 0 0, .pointer none, .pointer none, .int .i64 0, .int .i64 0]) := ⟨Try.zeroValue157⟩
instance : Inf Try.prog 157 6 80 (.agg #[.slice none 0 0, .slice none 0 0, .pointer none, .pointer none, .int .i64 0, .int .i64 0]) := ⟨inf_of (by kernel_rfl)⟩
instance : Plc Try.prog 157 [(0, 1), (1, 1), (2, 1), (3, 1), (4, 1), (5, 1)] := ⟨⟨_, Try.runUnderlying157, fun w => by simp [Try.sizeOf133, Try.sizeOf3, Try.sizeOf88]⟩⟩
instance : Fld Try.prog 157 0 0 := ⟨fun w a => by simp [Instr.fieldAt, Instr.sureAddr, fieldPlace, Try.runUnderlying157, Try.sizeOf88]⟩
instance : Fld Try.prog 157 1 1 := ⟨fun w a => by simp [Instr.fieldAt, Instr.sureAddr, fieldPlace, Try.runUnderlying157, Try.sizeOf88]⟩
instance : Fld Try.prog 157 2 2 := ⟨fun w a => by simp [Instr.fieldAt, Instr.sureAddr, fieldPlace, Try.runUnderlying157, Try.sizeOf133]⟩
instance : Fld Try.prog 157 3 3 := ⟨fun w a => by simp [Instr.fieldAt, Instr.sureAddr, fieldPlace, Try.runUnderlying157, Try.sizeOf133]⟩
instance : Fld Try.prog 157 4 4 := ⟨fun w a => by simp [Instr.fieldAt, Instr.sureAddr, fieldPlace, Try.runUnderlying157, Try.sizeOf3]⟩
instance : Fld Try.prog 157 5 5 := ⟨fun w a => by simp [Instr.fieldAt, Instr.sureAddr, fieldPlace, Try.runUnderlying157, Try.sizeOf3]⟩
instance : Cel Try.prog 158 6 := ⟨by kernel_rfl⟩
instance : Siz Try.prog 158 6 := ⟨Try.sizeOf158⟩
instance : Agg Try.prog 158 true := ⟨Try.isAgg158⟩
instance : Zer Try.prog 158 (.agg #[.slice none 0 0, .slice none 0 0, .pointer none, .pointer none, .int .i64 0, .int .i64 0]) := ⟨Try.zeroValue158⟩
instance : Inf Try.prog 158 6 80 (.agg #[.slice none 0 0, .slice none 0 0, .pointer none, .pointer none, .int .i64 0, .int .i64 0]) := ⟨inf_of (by kernel_rfl)⟩
instance : Plc Try.prog 158 [(0, 1), (1, 1), (2, 1), (3, 1), (4, 1), (5, 1)] := ⟨⟨_, Try.runUnderlying158, fun w => by simp [Try.sizeOf133, Try.sizeOf3, Try.sizeOf88]⟩⟩
instance : Fld Try.prog 158 0 0 := ⟨fun w a => by simp [Instr.fieldAt, Instr.sureAddr, fieldPlace, Try.runUnderlying158, Try.sizeOf88]⟩
instance : Fld Try.prog 158 1 1 := ⟨fun w a => by simp [Instr.fieldAt, Instr.sureAddr, fieldPlace, Try.runUnderlying158, Try.sizeOf88]⟩
instance : Fld Try.prog 158 2 2 := ⟨fun w a => by simp [Instr.fieldAt, Instr.sureAddr, fieldPlace, Try.runUnderlying158, Try.sizeOf133]⟩
instance : Fld Try.prog 158 3 3 := ⟨fun w a => by simp [Instr.fieldAt, Instr.sureAddr, fieldPlace, Try.runUnderlying158, Try.sizeOf133]⟩
instance : Fld Try.prog 158 4 4 := ⟨fun w a => by simp [Instr.fieldAt, Instr.sureAddr, fieldPlace, Try.runUnderlying158, Try.sizeOf3]⟩
instance : Fld Try.prog 158 5 5 := ⟨fun w a => by simp [Instr.fieldAt, Instr.sureAddr, fieldPlace, Try.runUnderlying158, Try.sizeOf3]⟩
instance : Cel Try.prog 159 1 := ⟨by kernel_rfl⟩
instance : Siz Try.prog 159 1 := ⟨Try.sizeOf159⟩
instance : Agg Try.prog 159 false := ⟨Try.isAgg159⟩
instance : Zer Try.prog 159 (.nilFunc) := ⟨Try.zeroValue159⟩
instance : Inf Try.prog 159 1 8 (.nilFunc) := ⟨inf_of (by kernel_rfl)⟩
instance : Cel Try.prog 160 1 := ⟨by kernel_rfl⟩
instance : Siz Try.prog 160 1 := ⟨Try.sizeOf160⟩
instance : Agg Try.prog 160 false := ⟨Try.isAgg160⟩
instance : Zer Try.prog 160 (.nilFunc) := ⟨Try.zeroValue160⟩
instance : Inf Try.prog 160 1 8 (.nilFunc) := ⟨inf_of (by kernel_rfl)⟩
instance : Und Try.prog 161 (.int .u64) := ⟨Try.underlying161⟩
instance : Cel Try.prog 161 1 := ⟨by kernel_rfl⟩
instance : Siz Try.prog 161 1 := ⟨Try.sizeOf161⟩
instance : Agg Try.prog 161 false := ⟨Try.isAgg161⟩
instance : Zer Try.prog 161 (.int .u64 0) := ⟨Try.zeroValue161⟩
instance : Inf Try.prog 161 1 8 (.int .u64 0) := ⟨inf_of (by kernel_rfl)⟩
instance : Cel Try.prog 162 1 := ⟨by kernel_rfl⟩
instance : Siz Try.prog 162 1 := ⟨Try.sizeOf162⟩
instance : Agg Try.prog 162 false := ⟨Try.isAgg162⟩
instance : Zer Try.prog 162 (.nilFunc) := ⟨Try.zeroValue162⟩
instance : Inf Try.prog 162 1 8 (.nilFunc) := ⟨inf_of (by kernel_rfl)⟩
instance : Cel Try.prog 163 1 := ⟨by kernel_rfl⟩
instance : Siz Try.prog 163 1 := ⟨Try.sizeOf163⟩
instance : Agg Try.prog 163 false := ⟨Try.isAgg163⟩
instance : Zer Try.prog 163 (.nilFunc) := ⟨Try.zeroValue163⟩
instance : Inf Try.prog 163 1 8 (.nilFunc) := ⟨inf_of (by kernel_rfl)⟩
instance : Cel Try.prog 164 1 := ⟨by kernel_rfl⟩
instance : Siz Try.prog 164 1 := ⟨Try.sizeOf164⟩
instance : Agg Try.prog 164 false := ⟨Try.isAgg164⟩
instance : Zer Try.prog 164 (.nilFunc) := ⟨Try.zeroValue164⟩
instance : Inf Try.prog 164 1 8 (.nilFunc) := ⟨inf_of (by kernel_rfl)⟩
instance : Cel Try.prog 165 1 := ⟨by kernel_rfl⟩
instance : Siz Try.prog 165 1 := ⟨Try.sizeOf165⟩
instance : Agg Try.prog 165 false := ⟨Try.isAgg165⟩
instance : Zer Try.prog 165 (.nilFunc) := ⟨Try.zeroValue165⟩
instance : Inf Try.prog 165 1 8 (.nilFunc) := ⟨inf_of (by kernel_rfl)⟩
instance : Cel Try.prog 166 1 := ⟨by kernel_rfl⟩
instance : Siz Try.prog 166 1 := ⟨Try.sizeOf166⟩
instance : Agg Try.prog 166 false := ⟨Try.isAgg166⟩
instance : Zer Try.prog 166 (.nilFunc) := ⟨Try.zeroValue166⟩
instance : Inf Try.prog 166 1 8 (.nilFunc) := ⟨inf_of (by kernel_rfl)⟩
instance : Cel Try.prog 167 1 := ⟨by kernel_rfl⟩
instance : Siz Try.prog 167 1 := ⟨Try.sizeOf167⟩
instance : Agg Try.prog 167 false := ⟨Try.isAgg167⟩
instance : Zer Try.prog 167 (.nilFunc) := ⟨Try.zeroValue167⟩
instance : Inf Try.prog 167 1 8 (.nilFunc) := ⟨inf_of (by kernel_rfl)⟩
instance : Cel Try.prog 168 1 := ⟨by kernel_rfl⟩
instance : Siz Try.prog 168 1 := ⟨Try.sizeOf168⟩
instance : Agg Try.prog 168 false := ⟨Try.isAgg168⟩
instance : Zer Try.prog 168 (.nilFunc) := ⟨Try.zeroValue168⟩
instance : Inf Try.prog 168 1 8 (.nilFunc) := ⟨inf_of (by kernel_rfl)⟩
instance : Cel Try.prog 169 1 := ⟨by kernel_rfl⟩
instance : Siz Try.prog 169 1 := ⟨Try.sizeOf169⟩
instance : Agg Try.prog 169 false := ⟨Try.isAgg169⟩
instance : Zer Try.prog 169 (.nilFunc) := ⟨Try.zeroValue169⟩
instance : Inf Try.prog 169 1 8 (.nilFunc) := ⟨inf_of (by kernel_rfl)⟩
instance : Cel Try.prog 170 1 := ⟨by kernel_rfl⟩
instance : Siz Try.prog 170 1 := ⟨Try.sizeOf170⟩
instance : Agg Try.prog 170 false := ⟨Try.isAgg170⟩
instance : Zer Try.prog 170 (.nilFunc) := ⟨Try.zeroValue170⟩
instance : Inf Try.prog 170 1 8 (.nilFunc) := ⟨inf_of (by kernel_rfl)⟩
instance : Cel Try.prog 171 1 := ⟨by kernel_rfl⟩
instance : Siz Try.prog 171 1 := ⟨Try.sizeOf171⟩
instance : Agg Try.prog 171 false := ⟨Try.isAgg171⟩
instance : Zer Try.prog 171 (.nilFunc) := ⟨Try.zeroValue171⟩
instance : Inf Try.prog 171 1 8 (.nilFunc) := ⟨inf_of (by kernel_rfl)⟩
instance : Cel Try.prog 172 1 := ⟨by kernel_rfl⟩
instance : Siz Try.prog 172 1 := ⟨Try.sizeOf172⟩
instance : Agg Try.prog 172 false := ⟨Try.isAgg172⟩
instance : Zer Try.prog 172 (.nilFunc) := ⟨Try.zeroValue172⟩
instance : Inf Try.prog 172 1 8 (.nilFunc) := ⟨inf_of (by kernel_rfl)⟩
instance : Cel Try.prog 173 1 := ⟨by kernel_rfl⟩
instance : Siz Try.prog 173 1 := ⟨Try.sizeOf173⟩
instance : Agg Try.prog 173 false := ⟨Try.isAgg173⟩
instance : Zer Try.prog 173 (.nilFunc) := ⟨Try.zeroValue173⟩
instance : Inf Try.prog 173 1 8 (.nilFunc) := ⟨inf_of (by kernel_rfl)⟩
instance : Cel Try.prog 174 1 := ⟨by kernel_rfl⟩
instance : Siz Try.prog 174 1 := ⟨Try.sizeOf174⟩
instance : Agg Try.prog 174 false := ⟨Try.isAgg174⟩
instance : Zer Try.prog 174 (.nilFunc) := ⟨Try.zeroValue174⟩
instance : Inf Try.prog 174 1 8 (.nilFunc) := ⟨inf_of (by kernel_rfl)⟩
instance : Cel Try.prog 175 1 := ⟨by kernel_rfl⟩
instance : Siz Try.prog 175 1 := ⟨Try.sizeOf175⟩
instance : Agg Try.prog 175 false := ⟨Try.isAgg175⟩
instance : Zer Try.prog 175 (.nilFunc) := ⟨Try.zeroValue175⟩
instance : Inf Try.prog 175 1 8 (.nilFunc) := ⟨inf_of (by kernel_rfl)⟩
instance : Cel Try.prog 176 1 := ⟨by kernel_rfl⟩
instance : Siz Try.prog 176 1 := ⟨Try.sizeOf176⟩
instance : Agg Try.prog 176 false := ⟨Try.isAgg176⟩
instance : Zer Try.prog 176 (.nilFunc) := ⟨Try.zeroValue176⟩
instance : Inf Try.prog 176 1 8 (.nilFunc) := ⟨inf_of (by kernel_rfl)⟩
instance : Cel Try.prog 177 1 := ⟨by kernel_rfl⟩
instance : Siz Try.prog 177 1 := ⟨Try.sizeOf177⟩
instance : Agg Try.prog 177 false := ⟨Try.isAgg177⟩
instance : Zer Try.prog 177 (.nilFunc) := ⟨Try.zeroValue177⟩
instance : Inf Try.prog 177 1 8 (.nilFunc) := ⟨inf_of (by kernel_rfl)⟩
instance : Und Try.prog 178 (.array 3 79) := ⟨Try.underlying178⟩
instance : Cel Try.prog 178 15 := ⟨by kernel_rfl⟩
instance : Siz Try.prog 178 15 := ⟨Try.sizeOf178⟩
instance : Agg Try.prog 178 true := ⟨Try.isAgg178⟩
instance : Zer Try.prog 178 (.agg #[.bool false, .int .i64 0, .int .i64 0, .int .i64 0, .string ⟨#[]⟩, .bool false, .int .i64 0, .int .i64 0, .int .i64 0, .string ⟨#[]⟩, .bool false, .int .i64 0, .int .i64 0, .int .i64 0, .string ⟨#[]⟩]) := ⟨Try.zeroValue178⟩
instance : Inf Try.prog 178 15 144 (.agg #[.bool false, .int .i64 0, .int .i64 0, .int .i64 0, .string ⟨#[]⟩, .bool false, .int .i64 0, .int .i64 0, .int .i64 0, .string ⟨#[]⟩, .bool false, .int .i64 0, .int .i64 0, .int .i64 0, .string ⟨#[]⟩]) := ⟨inf_of (by kernel_rfl)⟩
instance : Cel Try.prog 179 1 := ⟨by kernel_rfl⟩
instance : Siz Try.prog 179 1 := ⟨Try.sizeOf179⟩
instance : Agg Try.prog 179 false := ⟨Try.isAgg179⟩
instance : Zer Try.prog 179 (.nilFunc) := ⟨Try.zeroValue179⟩
instance : Inf Try.prog 179 1 8 (.nilFunc) := ⟨inf_of (by kernel_rfl)⟩
instance : Cel Try.prog 180 1 := ⟨by kernel_rfl⟩
instance : Siz Try.prog 180 1 := ⟨Try.sizeOf180⟩
instance : Agg Try.prog 180 false := ⟨Try.isAgg180⟩
instance : Zer Try.prog 180 (.nilFunc) := ⟨Try.zeroValue180⟩
instance : Inf Try.prog 180 1 8 (.nilFunc) := ⟨inf_of (by kernel_rfl)⟩
instance : Und Try.prog 181 (.pointer 183) := ⟨Try.underlying181⟩
instance : Cel Try.prog 181 1 := ⟨by kernel_rfl⟩
instance : Siz Try.prog 181 1 := ⟨Try.sizeOf181⟩
instance : Agg Try.prog 181 false := ⟨Try.isAgg181⟩
instance : Zer Try.prog 181 (.pointer none) := ⟨Try.zeroValue181⟩
instance : Inf Try.prog 181 1 8 (.pointer none) := ⟨inf_of (by kernel_rfl)⟩
instance : Cel Try.prog 182 2 := ⟨by kernel_rfl⟩
instance : Siz Try.prog 182 2 := ⟨Try.sizeOf182⟩
instance : Agg Try.prog 182 true := ⟨Try.isAgg182⟩
instance : Zer Try.prog 182 (.agg #[.slice none 0 0, .bool false]) := ⟨Try.zeroValue182⟩
instance : Inf Try.prog 182 2 32 (.agg #[.slice none 0 0, .bool false]) := ⟨inf_of (by kernel_rfl)⟩
instance : Plc Try.prog 182 [(0, 1), (1, 1)] := ⟨⟨_, Try.runUnderlying182, fun w => by simp [Try.sizeOf4, Try.sizeOf88]⟩⟩
instance : Fld Try.prog 182 0 0 := ⟨fun w a => by simp [Instr.fieldAt, Instr.sureAddr, fieldPlace, Try.runUnderlying182, Try.sizeOf88]⟩
instance : Fld Try.prog 182 1 1 := ⟨fun w a => by simp [Instr.fieldAt, Instr.sureAddr, fieldPlace, Try.runUnderlying182, Try.sizeOf4]⟩
instance : Cel Try.prog 183 2 := ⟨by kernel_rfl⟩
instance : Siz Try.prog 183 2 := ⟨Try.sizeOf183⟩
instance : Agg Try.prog 183 true := ⟨Try.isAgg183⟩
instance : Zer Try.prog 183 (.agg #[.slice none 0 0, .bool false]) := ⟨Try.zeroValue183⟩
instance : Inf Try.prog 183 2 32 (.agg #[.slice none 0 0, .bool false]) := ⟨inf_of (by kernel_rfl)⟩
instance : Plc Try.prog 183 [(0, 1), (1, 1)] := ⟨⟨_, Try.runUnderlying183, fun w => by simp [Try.sizeOf4, Try.sizeOf88]⟩⟩
instance : Fld Try.prog 183 0 0 := ⟨fun w a => by simp [Instr.fieldAt, Instr.sureAddr, fieldPlace, Try.runUnderlying183, Try.sizeOf88]⟩
instance : Fld Try.prog 183 1 1 := ⟨fun w a => by simp [Instr.fieldAt, Instr.sureAddr, fieldPlace, Try.runUnderlying183, Try.sizeOf4]⟩
instance : Cel Try.prog 184 1 := ⟨by kernel_rfl⟩
instance : Siz Try.prog 184 1 := ⟨Try.sizeOf184⟩
instance : Agg Try.prog 184 false := ⟨Try.isAgg184⟩
instance : Zer Try.prog 184 (.nilFunc) := ⟨Try.zeroValue184⟩
instance : Inf Try.prog 184 1 8 (.nilFunc) := ⟨inf_of (by kernel_rfl)⟩
instance : Cel Try.prog 185 1 := ⟨by kernel_rfl⟩
instance : Siz Try.prog 185 1 := ⟨Try.sizeOf185⟩
instance : Agg Try.prog 185 false := ⟨Try.isAgg185⟩
instance : Zer Try.prog 185 (.nilFunc) := ⟨Try.zeroValue185⟩
instance : Inf Try.prog 185 1 8 (.nilFunc) := ⟨inf_of (by kernel_rfl)⟩
instance : Cel Try.prog 186 1 := ⟨by kernel_rfl⟩
instance : Siz Try.prog 186 1 := ⟨Try.sizeOf186⟩
instance : Agg Try.prog 186 false := ⟨Try.isAgg186⟩
instance : Zer Try.prog 186 (.nilFunc) := ⟨Try.zeroValue186⟩
instance : Inf Try.prog 186 1 8 (.nilFunc) := ⟨inf_of (by kernel_rfl)⟩
instance : Cel Try.prog 187 1 := ⟨by kernel_rfl⟩
instance : Siz Try.prog 187 1 := ⟨Try.sizeOf187⟩
instance : Agg Try.prog 187 false := ⟨Try.isAgg187⟩
instance : Zer Try.prog 187 (.nilFunc) := ⟨Try.zeroValue187⟩
instance : Inf Try.prog 187 1 8 (.nilFunc) := ⟨inf_of (by kernel_rfl)⟩
instance : Cel Try.prog 188 1 := ⟨by kernel_rfl⟩
instance : Siz Try.prog 188 1 := ⟨Try.sizeOf188⟩
instance : Agg Try.prog 188 false := ⟨Try.isAgg188⟩
instance : Zer Try.prog 188 (.nilFunc) := ⟨Try.zeroValue188⟩
instance : Inf Try.prog 188 1 8 (.nilFunc) := ⟨inf_of (by kernel_rfl)⟩
instance : Cel Try.prog 189 1 := ⟨by kernel_rfl⟩
instance : Siz Try.prog 189 1 := ⟨Try.sizeOf189⟩
instance : Agg Try.prog 189 false := ⟨Try.isAgg189⟩
instance : Zer Try.prog 189 (.nilFunc) := ⟨Try.zeroValue189⟩
instance : Inf Try.prog 189 1 8 (.nilFunc) := ⟨inf_of (by kernel_rfl)⟩
instance : Cel Try.prog 190 1 := ⟨by kernel_rfl⟩
instance : Siz Try.prog 190 1 := ⟨Try.sizeOf190⟩
instance : Agg Try.prog 190 false := ⟨Try.isAgg190⟩
instance : Zer Try.prog 190 (.nilFunc) := ⟨Try.zeroValue190⟩
instance : Inf Try.prog 190 1 8 (.nilFunc) := ⟨inf_of (by kernel_rfl)⟩
instance : Cel Try.prog 191 1 := ⟨by kernel_rfl⟩
instance : Siz Try.prog 191 1 := ⟨Try.sizeOf191⟩
instance : Agg Try.prog 191 false := ⟨Try.isAgg191⟩
instance : Zer Try.prog 191 (.nilFunc) := ⟨Try.zeroValue191⟩
instance : Inf Try.prog 191 1 8 (.nilFunc) := ⟨inf_of (by kernel_rfl)⟩
instance : Und Try.prog 192 (.int .i64) := ⟨Try.underlying192⟩
instance : Cel Try.prog 192 1 := ⟨by kernel_rfl⟩
instance : Siz Try.prog 192 1 := ⟨Try.sizeOf192⟩
instance : Agg Try.prog 192 false := ⟨Try.isAgg192⟩
instance : Zer Try.prog 192 (.int .i64 0) := ⟨Try.zeroValue192⟩
instance : Inf Try.prog 192 1 8 (.int .i64 0) := ⟨inf_of (by kernel_rfl)⟩
instance : Cel Try.prog 193 1 := ⟨by kernel_rfl⟩
instance : Siz Try.prog 193 1 := ⟨Try.sizeOf193⟩
instance : Cel Try.prog 194 1 := ⟨by kernel_rfl⟩
instance : Siz Try.prog 194 1 := ⟨Try.sizeOf194⟩
instance : Agg Try.prog 194 false := ⟨Try.isAgg194⟩
instance : Zer Try.prog 194 (.nilFunc) := ⟨Try.zeroValue194⟩
instance : Inf Try.prog 194 1 8 (.nilFunc) := ⟨inf_of (by kernel_rfl)⟩
instance : Cel Try.prog 195 1 := ⟨by kernel_rfl⟩
instance : Siz Try.prog 195 1 := ⟨Try.sizeOf195⟩
instance : Agg Try.prog 195 false := ⟨Try.isAgg195⟩
instance : Zer Try.prog 195 (.nilFunc) := ⟨Try.zeroValue195⟩
instance : Inf Try.prog 195 1 8 (.nilFunc) := ⟨inf_of (by kernel_rfl)⟩
instance : Cel Try.prog 196 1 := ⟨by kernel_rfl⟩
instance : Siz Try.prog 196 1 := ⟨Try.sizeOf196⟩
instance : Agg Try.prog 196 false := ⟨Try.isAgg196⟩
instance : Zer Try.prog 196 (.nilFunc) := ⟨Try.zeroValue196⟩
instance : Inf Try.prog 196 1 8 (.nilFunc) := ⟨inf_of (by kernel_rfl)⟩
instance : Cel Try.prog 197 1 := ⟨by kernel_rfl⟩
instance : Siz Try.prog 197 1 := ⟨Try.sizeOf197⟩
instance : Agg Try.prog 197 false := ⟨Try.isAgg197⟩
instance : Zer Try.prog 197 (.nilFunc) := ⟨Try.zeroValue197⟩
instance : Inf Try.prog 197 1 8 (.nilFunc) := ⟨inf_of (by kernel_rfl)⟩
instance : Cel Try.prog 198 1 := ⟨by kernel_rfl⟩
instance : Siz Try.prog 198 1 := ⟨Try.sizeOf198⟩
instance : Agg Try.prog 198 false := ⟨Try.isAgg198⟩
instance : Zer Try.prog 198 (.nilFunc) := ⟨Try.zeroValue198⟩
instance : Inf Try.prog 198 1 8 (.nilFunc) := ⟨inf_of (by kernel_rfl)⟩
instance : Und Try.prog 199 (.int .u32) := ⟨Try.underlying199⟩
instance : Cel Try.prog 199 1 := ⟨by kernel_rfl⟩
instance : Siz Try.prog 199 1 := ⟨Try.sizeOf199⟩
instance : Agg Try.prog 199 false := ⟨Try.isAgg199⟩
instance : Zer Try.prog 199 (.int .u32 0) := ⟨Try.zeroValue199⟩
instance : Inf Try.prog 199 1 4 (.int .u32 0) := ⟨inf_of (by kernel_rfl)⟩
instance : Cel Try.prog 200 1 := ⟨by kernel_rfl⟩
instance : Siz Try.prog 200 1 := ⟨Try.sizeOf200⟩
instance : Agg Try.prog 200 false := ⟨Try.isAgg200⟩
instance : Zer Try.prog 200 (.nilFunc) := ⟨Try.zeroValue200⟩
instance : Inf Try.prog 200 1 8 (.nilFunc) := ⟨inf_of (by kernel_rfl)⟩
instance : Und Try.prog 201 (.int .u64) := ⟨Try.underlying201⟩
instance : Cel Try.prog 201 1 := ⟨by kernel_rfl⟩
instance : Siz Try.prog 201 1 := ⟨Try.sizeOf201⟩
instance : Agg Try.prog 201 false := ⟨Try.isAgg201⟩
instance : Zer Try.prog 201 (.int .u64 0) := ⟨Try.zeroValue201⟩
instance : Inf Try.prog 201 1 8 (.int .u64 0) := ⟨inf_of (by kernel_rfl)⟩
instance : Cel Try.prog 202 1 := ⟨by kernel_rfl⟩
instance : Siz Try.prog 202 1 := ⟨Try.sizeOf202⟩
instance : Agg Try.prog 202 false := ⟨Try.isAgg202⟩
instance : Zer Try.prog 202 (.nilFunc) := ⟨Try.zeroValue202⟩
instance : Inf Try.prog 202 1 8 (.nilFunc) := ⟨inf_of (by kernel_rfl)⟩
instance : Cel Try.prog 203 1 := ⟨by kernel_rfl⟩
instance : Siz Try.prog 203 1 := ⟨Try.sizeOf203⟩
instance : Agg Try.prog 203 false := ⟨Try.isAgg203⟩
instance : Zer Try.prog 203 (.nilFunc) := ⟨Try.zeroValue203⟩
instance : Inf Try.prog 203 1 8 (.nilFunc) := ⟨inf_of (by kernel_rfl)⟩
instance : Cel Try.prog 204 1 := ⟨by kernel_rfl⟩
instance : Siz Try.prog 204 1 := ⟨Try.sizeOf204⟩
instance : Agg Try.prog 204 false := ⟨Try.isAgg204⟩
instance : Zer Try.prog 204 (.nilFunc) := ⟨Try.zeroValue204⟩
instance : Inf Try.prog 204 1 8 (.nilFunc) := ⟨inf_of (by kernel_rfl)⟩
instance : Cel Try.prog 205 1 := ⟨by kernel_rfl⟩
instance : Siz Try.prog 205 1 := ⟨Try.sizeOf205⟩
instance : Agg Try.prog 205 false := ⟨Try.isAgg205⟩
instance : Zer Try.prog 205 (.nilFunc) := ⟨Try.zeroValue205⟩
instance : Inf Try.prog 205 1 8 (.nilFunc) := ⟨inf_of (by kernel_rfl)⟩
instance : Cel Try.prog 206 1 := ⟨by kernel_rfl⟩
instance : Siz Try.prog 206 1 := ⟨Try.sizeOf206⟩
instance : Agg Try.prog 206 false := ⟨Try.isAgg206⟩
instance : Zer Try.prog 206 (.nilFunc) := ⟨Try.zeroValue206⟩
instance : Inf Try.prog 206 1 8 (.nilFunc) := ⟨inf_of (by kernel_rfl)⟩
instance : Und Try.prog 207 (.array 8 5) := ⟨Try.underlying207⟩
instance : Cel Try.prog 207 8 := ⟨by kernel_rfl⟩
instance : Siz Try.prog 207 8 := ⟨Try.sizeOf207⟩
instance : Agg Try.prog 207 true := ⟨Try.isAgg207⟩
instance : Zer Try.prog 207 (.agg #[.int .u8 0, .int .u8 0, .int .u8 0, .int .u8 0, .int .u8 0, .int .u8 0, .int .u8 0, .int .u8 0]) := ⟨Try.zeroValue207⟩
instance : Inf Try.prog 207 8 8 (.agg #[.int .u8 0, .int .u8 0, .int .u8 0, .int .u8 0, .int .u8 0, .int .u8 0, .int .u8 0, .int .u8 0]) := ⟨inf_of (by kernel_rfl)⟩
instance : Cel Try.prog 208 1 := ⟨by kernel_rfl⟩
instance : Siz Try.prog 208 1 := ⟨Try.sizeOf208⟩
instance : Agg Try.prog 208 false := ⟨Try.isAgg208⟩
instance : Zer Try.prog 208 (.nilFunc) := ⟨Try.zeroValue208⟩
instance : Inf Try.prog 208 1 8 (.nilFunc) := ⟨inf_of (by kernel_rfl)⟩
instance : Cel Try.prog 209 1 := ⟨by kernel_rfl⟩
instance : Siz Try.prog 209 1 := ⟨Try.sizeOf209⟩
instance : Agg Try.prog 209 false := ⟨Try.isAgg209⟩
instance : Zer Try.prog 209 (.nilFunc) := ⟨Try.zeroValue209⟩
instance : Inf Try.prog 209 1 8 (.nilFunc) := ⟨inf_of (by kernel_rfl)⟩
instance : Cel Try.prog 210 1 := ⟨by kernel_rfl⟩
instance : Siz Try.prog 210 1 := ⟨Try.sizeOf210⟩
instance : Agg Try.prog 210 false := ⟨Try.isAgg210⟩
instance : Zer Try.prog 210 (.nilFunc) := ⟨Try.zeroValue210⟩
instance : Inf Try.prog 210 1 8 (.nilFunc) := ⟨inf_of (by kernel_rfl)⟩
instance : Cel Try.prog 211 1 := ⟨by kernel_rfl⟩
instance : Siz Try.prog 211 1 := ⟨Try.sizeOf211⟩
instance : Agg Try.prog 211 false := ⟨Try.isAgg211⟩
instance : Zer Try.prog 211 (.nilFunc) := ⟨Try.zeroValue211⟩
instance : Inf Try.prog 211 1 8 (.nilFunc) := ⟨inf_of (by kernel_rfl)⟩
instance : Cel Try.prog 212 1 := ⟨by kernel_rfl⟩
instance : Siz Try.prog 212 1 := ⟨Try.sizeOf212⟩
instance : Agg Try.prog 212 false := ⟨Try.isAgg212⟩
instance : Zer Try.prog 212 (.nilFunc) := ⟨Try.zeroValue212⟩
instance : Inf Try.prog 212 1 8 (.nilFunc) := ⟨inf_of (by kernel_rfl)⟩
instance : Cel Try.prog 213 1 := ⟨by kernel_rfl⟩
instance : Siz Try.prog 213 1 := ⟨Try.sizeOf213⟩
instance : Agg Try.prog 213 false := ⟨Try.isAgg213⟩
instance : Zer Try.prog 213 (.nilFunc) := ⟨Try.zeroValue213⟩
instance : Inf Try.prog 213 1 8 (.nilFunc) := ⟨inf_of (by kernel_rfl)⟩
instance : Cel Try.prog 214 1 := ⟨by kernel_rfl⟩
instance : Siz Try.prog 214 1 := ⟨Try.sizeOf214⟩
instance : Agg Try.prog 214 false := ⟨Try.isAgg214⟩
instance : Zer Try.prog 214 (.nilFunc) := ⟨Try.zeroValue214⟩
instance : Inf Try.prog 214 1 8 (.nilFunc) := ⟨inf_of (by kernel_rfl)⟩
instance : Cel Try.prog 215 1 := ⟨by kernel_rfl⟩
instance : Siz Try.prog 215 1 := ⟨Try.sizeOf215⟩
instance : Agg Try.prog 215 false := ⟨Try.isAgg215⟩
instance : Zer Try.prog 215 (.nilFunc) := ⟨Try.zeroValue215⟩
instance : Inf Try.prog 215 1 8 (.nilFunc) := ⟨inf_of (by kernel_rfl)⟩
instance : Cel Try.prog 216 1 := ⟨by kernel_rfl⟩
instance : Siz Try.prog 216 1 := ⟨Try.sizeOf216⟩
instance : Agg Try.prog 216 false := ⟨Try.isAgg216⟩
instance : Zer Try.prog 216 (.nilFunc) := ⟨Try.zeroValue216⟩
instance : Inf Try.prog 216 1 8 (.nilFunc) := ⟨inf_of (by kernel_rfl)⟩
instance : Cel Try.prog 217 1 := ⟨by kernel_rfl⟩
instance : Siz Try.prog 217 1 := ⟨Try.sizeOf217⟩
instance : Agg Try.prog 217 false := ⟨Try.isAgg217⟩
instance : Zer Try.prog 217 (.nilFunc) := ⟨Try.zeroValue217⟩
instance : Inf Try.prog 217 1 8 (.nilFunc) := ⟨inf_of (by kernel_rfl)⟩
instance : Und Try.prog 218 (.int .u64) := ⟨Try.underlying218⟩
instance : Cel Try.prog 218 1 := ⟨by kernel_rfl⟩
instance : Siz Try.prog 218 1 := ⟨Try.sizeOf218⟩
instance : Agg Try.prog 218 false := ⟨Try.isAgg218⟩
instance : Zer Try.prog 218 (.int .u64 0) := ⟨Try.zeroValue218⟩
instance : Inf Try.prog 218 1 8 (.int .u64 0) := ⟨inf_of (by kernel_rfl)⟩
instance : Cel Try.prog 219 1 := ⟨by kernel_rfl⟩
instance : Siz Try.prog 219 1 := ⟨Try.sizeOf219⟩
instance : Agg Try.prog 219 false := ⟨Try.isAgg219⟩
instance : Zer Try.prog 219 (.nilFunc) := ⟨Try.zeroValue219⟩
instance : Inf Try.prog 219 1 8 (.nilFunc) := ⟨inf_of (by kernel_rfl)⟩
instance : Cel Try.prog 220 1 := ⟨by kernel_rfl⟩
instance : Siz Try.prog 220 1 := ⟨Try.sizeOf220⟩
instance : Agg Try.prog 220 false := ⟨Try.isAgg220⟩
instance : Zer Try.prog 220 (.nilFunc) := ⟨Try.zeroValue220⟩
instance : Inf Try.prog 220 1 8 (.nilFunc) := ⟨inf_of (by kernel_rfl)⟩
instance : Cel Try.prog 221 1 := ⟨by kernel_rfl⟩
instance : Siz Try.prog 221 1 := ⟨Try.sizeOf221⟩
instance : Agg Try.prog 221 false := ⟨Try.isAgg221⟩
instance : Zer Try.prog 221 (.nilFunc) := ⟨Try.zeroValue221⟩
instance : Inf Try.prog 221 1 8 (.nilFunc) := ⟨inf_of (by kernel_rfl)⟩
instance : Und Try.prog 222 (.pointer 3) := ⟨Try.underlying222⟩
instance : Cel Try.prog 222 1 := ⟨by kernel_rfl⟩
instance : Siz Try.prog 222 1 := ⟨Try.sizeOf222⟩
instance : Agg Try.prog 222 false := ⟨Try.isAgg222⟩
instance : Zer Try.prog 222 (.pointer none) := ⟨Try.zeroValue222⟩
instance : Inf Try.prog 222 1 8 (.pointer none) := ⟨inf_of (by kernel_rfl)⟩
instance : Cel Try.prog 223 1 := ⟨by kernel_rfl⟩
instance : Siz Try.prog 223 1 := ⟨Try.sizeOf223⟩
instance : Agg Try.prog 223 false := ⟨Try.isAgg223⟩
instance : Zer Try.prog 223 (.nilFunc) := ⟨Try.zeroValue223⟩
instance : Inf Try.prog 223 1 8 (.nilFunc) := ⟨inf_of (by kernel_rfl)⟩
instance : Cel Try.prog 224 1 := ⟨by kernel_rfl⟩
instance : Siz Try.prog 224 1 := ⟨Try.sizeOf224⟩
instance : Agg Try.prog 224 false := ⟨Try.isAgg224⟩
instance : Zer Try.prog 224 (.nilFunc) := ⟨Try.zeroValue224⟩
instance : Inf Try.prog 224 1 8 (.nilFunc) := ⟨inf_of (by kernel_rfl)⟩
instance : Cel Try.prog 225 1 := ⟨by kernel_rfl⟩
instance : Siz Try.prog 225 1 := ⟨Try.sizeOf225⟩
instance : Agg Try.prog 225 false := ⟨Try.isAgg225⟩
instance : Zer Try.prog 225 (.nilFunc) := ⟨Try.zeroValue225⟩
instance : Inf Try.prog 225 1 8 (.nilFunc) := ⟨inf_of (by kernel_rfl)⟩
instance : Cel Try.prog 226 1 := ⟨by kernel_rfl⟩
instance : Siz Try.prog 226 1 := ⟨Try.sizeOf226⟩
instance : Agg Try.prog 226 false := ⟨Try.isAgg226⟩
instance : Zer Try.prog 226 (.nilFunc) := ⟨Try.zeroValue226⟩
instance : Inf Try.prog 226 1 8 (.nilFunc) := ⟨inf_of (by kernel_rfl)⟩
instance : Cel Try.prog 227 1 := ⟨by kernel_rfl⟩
instance : Siz Try.prog 227 1 := ⟨Try.sizeOf227⟩
instance : Agg Try.prog 227 false := ⟨Try.isAgg227⟩
instance : Zer Try.prog 227 (.nilFunc) := ⟨Try.zeroValue227⟩
instance : Inf Try.prog 227 1 8 (.nilFunc) := ⟨inf_of (by kernel_rfl)⟩
instance : Cel Try.prog 228 1 := ⟨by kernel_rfl⟩
instance : Siz Try.prog 228 1 := ⟨Try.sizeOf228⟩
instance : Agg Try.prog 228 false := ⟨Try.isAgg228⟩
instance : Zer Try.prog 228 (.nilFunc) := ⟨Try.zeroValue228⟩
instance : Inf Try.prog 228 1 8 (.nilFunc) := ⟨inf_of (by kernel_rfl)⟩
instance : Und Try.prog 229 (.slice 3) := ⟨Try.underlying229⟩
instance : Cel Try.prog 229 1 := ⟨by kernel_rfl⟩
instance : Siz Try.prog 229 1 := ⟨Try.sizeOf229⟩
instance : Agg Try.prog 229 false := ⟨Try.isAgg229⟩
instance : Zer Try.prog 229 (.slice none 0 0) := ⟨Try.zeroValue229⟩
instance : Inf Try.prog 229 1 24 (.slice none 0 0) := ⟨inf_of (by kernel_rfl)⟩
instance : Cel Try.prog 230 1 := ⟨by kernel_rfl⟩
instance : Siz Try.prog 230 1 := ⟨Try.sizeOf230⟩
instance : Agg Try.prog 230 false := ⟨Try.isAgg230⟩
instance : Zer Try.prog 230 (.nilFunc) := ⟨Try.zeroValue230⟩
instance : Inf Try.prog 230 1 8 (.nilFunc) := ⟨inf_of (by kernel_rfl)⟩
instance : Cel Try.prog 231 1 := ⟨by kernel_rfl⟩
instance : Siz Try.prog 231 1 := ⟨Try.sizeOf231⟩
instance : Agg Try.prog 231 false := ⟨Try.isAgg231⟩
instance : Zer Try.prog 231 (.nilFunc) := ⟨Try.zeroValue231⟩
instance : Inf Try.prog 231 1 8 (.nilFunc) := ⟨inf_of (by kernel_rfl)⟩
instance : Und Try.prog 232 (.pointer 218) := ⟨Try.underlying232⟩
instance : Cel Try.prog 232 1 := ⟨by kernel_rfl⟩
instance : Siz Try.prog 232 1 := ⟨Try.sizeOf232⟩
instance : Agg Try.prog 232 false := ⟨Try.isAgg232⟩
instance : Zer Try.prog 232 (.pointer none) := ⟨Try.zeroValue232⟩
instance : Inf Try.prog 232 1 8 (.pointer none) := ⟨inf_of (by kernel_rfl)⟩
instance : Cel Try.prog 233 1 := ⟨by kernel_rfl⟩
instance : Siz Try.prog 233 1 := ⟨Try.sizeOf233⟩
instance : Agg Try.prog 233 false := ⟨Try.isAgg233⟩
instance : Zer Try.prog 233 (.nilFunc) := ⟨Try.zeroValue233⟩
instance : Inf Try.prog 233 1 8 (.nilFunc) := ⟨inf_of (by kernel_rfl)⟩
instance : Cel Try.prog 234 1 := ⟨by kernel_rfl⟩
instance : Siz Try.prog 234 1 := ⟨Try.sizeOf234⟩
instance : Agg Try.prog 234 false := ⟨Try.isAgg234⟩
instance : Zer Try.prog 234 (.nilFunc) := ⟨Try.zeroValue234⟩
instance : Inf Try.prog 234 1 8 (.nilFunc) := ⟨inf_of (by kernel_rfl)⟩
instance : Cel Try.prog 235 1 := ⟨by kernel_rfl⟩
instance : Siz Try.prog 235 1 := ⟨Try.sizeOf235⟩
instance : Agg Try.prog 235 false := ⟨Try.isAgg235⟩
instance : Zer Try.prog 235 (.nilFunc) := ⟨Try.zeroValue235⟩
instance : Inf Try.prog 235 1 8 (.nilFunc) := ⟨inf_of (by kernel_rfl)⟩
instance : Cel Try.prog 236 1 := ⟨by kernel_rfl⟩
instance : Siz Try.prog 236 1 := ⟨Try.sizeOf236⟩
instance : Agg Try.prog 236 false := ⟨Try.isAgg236⟩
instance : Zer Try.prog 236 (.nilFunc) := ⟨Try.zeroValue236⟩
instance : Inf Try.prog 236 1 8 (.nilFunc) := ⟨inf_of (by kernel_rfl)⟩
instance : Cel Try.prog 237 1 := ⟨by kernel_rfl⟩
instance : Siz Try.prog 237 1 := ⟨Try.sizeOf237⟩
instance : Agg Try.prog 237 false := ⟨Try.isAgg237⟩
instance : Zer Try.prog 237 (.nilFunc) := ⟨Try.zeroValue237⟩
instance : Inf Try.prog 237 1 8 (.nilFunc) := ⟨inf_of (by kernel_rfl)⟩
instance : Cel Try.prog 238 1 := ⟨by kernel_rfl⟩
instance : Siz Try.prog 238 1 := ⟨Try.sizeOf238⟩
instance : Agg Try.prog 238 false := ⟨Try.isAgg238⟩
instance : Zer Try.prog 238 (.nilFunc) := ⟨Try.zeroValue238⟩
instance : Inf Try.prog 238 1 8 (.nilFunc) := ⟨inf_of (by kernel_rfl)⟩
instance : Cel Try.prog 239 1 := ⟨by kernel_rfl⟩
instance : Siz Try.prog 239 1 := ⟨Try.sizeOf239⟩
instance : Agg Try.prog 239 false := ⟨Try.isAgg239⟩
instance : Zer Try.prog 239 (.nilFunc) := ⟨Try.zeroValue239⟩
instance : Inf Try.prog 239 1 8 (.nilFunc) := ⟨inf_of (by kernel_rfl)⟩
instance : Cel Try.prog 240 1 := ⟨by kernel_rfl⟩
instance : Siz Try.prog 240 1 := ⟨Try.sizeOf240⟩
instance : Agg Try.prog 240 false := ⟨Try.isAgg240⟩
instance : Zer Try.prog 240 (.nilFunc) := ⟨Try.zeroValue240⟩
instance : Inf Try.prog 240 1 8 (.nilFunc) := ⟨inf_of (by kernel_rfl)⟩
instance : Cel Try.prog 241 1 := ⟨by kernel_rfl⟩
instance : Siz Try.prog 241 1 := ⟨Try.sizeOf241⟩
instance : Agg Try.prog 241 false := ⟨Try.isAgg241⟩
instance : Zer Try.prog 241 (.nilFunc) := ⟨Try.zeroValue241⟩
instance : Inf Try.prog 241 1 8 (.nilFunc) := ⟨inf_of (by kernel_rfl)⟩
instance : Cel Try.prog 242 4 := ⟨by kernel_rfl⟩
instance : Siz Try.prog 242 4 := ⟨Try.sizeOf242⟩
instance : Agg Try.prog 242 true := ⟨Try.isAgg242⟩
instance : Zer Try.prog 242 (.agg #[.pointer none, .pointer none, .pointer none, .string ⟨#[]⟩]) := ⟨Try.zeroValue242⟩
instance : Inf Try.prog 242 4 40 (.agg #[.pointer none, .pointer none, .pointer none, .string ⟨#[]⟩]) := ⟨inf_of (by kernel_rfl)⟩
instance : Plc Try.prog 242 [(0, 1), (1, 1), (2, 1), (3, 1)] := ⟨⟨_, Try.runUnderlying242, fun w => by simp [Try.sizeOf17, Try.sizeOf9]⟩⟩
instance : Fld Try.prog 242 0 0 := ⟨fun w a => by simp [Instr.fieldAt, Instr.sureAddr, fieldPlace, Try.runUnderlying242, Try.sizeOf17]⟩
instance : Fld Try.prog 242 1 1 := ⟨fun w a => by simp [Instr.fieldAt, Instr.sureAddr, fieldPlace, Try.runUnderlying242, Try.sizeOf17]⟩
instance : Fld Try.prog 242 2 2 := ⟨fun w a => by simp [Instr.fieldAt, Instr.sureAddr, fieldPlace, Try.runUnderlying242, Try.sizeOf17]⟩
instance : Fld Try.prog 242 3 3 := ⟨fun w a => by simp [Instr.fieldAt, Instr.sureAddr, fieldPlace, Try.runUnderlying242, Try.sizeOf9]⟩
instance : Cel Try.prog 243 4 := ⟨by kernel_rfl⟩
instance : Siz Try.prog 243 4 := ⟨Try.sizeOf243⟩
instance : Agg Try.prog 243 true := ⟨Try.isAgg243⟩
instance : Zer Try.prog 243 (.agg #[.pointer none, .pointer none, .pointer none, .string ⟨#[]⟩]) := ⟨Try.zeroValue243⟩
instance : Inf Try.prog 243 4 40 (.agg #[.pointer none, .pointer none, .pointer none, .string ⟨#[]⟩]) := ⟨inf_of (by kernel_rfl)⟩
instance : Plc Try.prog 243 [(0, 1), (1, 1), (2, 1), (3, 1)] := ⟨⟨_, Try.runUnderlying243, fun w => by simp [Try.sizeOf17, Try.sizeOf9]⟩⟩
instance : Fld Try.prog 243 0 0 := ⟨fun w a => by simp [Instr.fieldAt, Instr.sureAddr, fieldPlace, Try.runUnderlying243, Try.sizeOf17]⟩
instance : Fld Try.prog 243 1 1 := ⟨fun w a => by simp [Instr.fieldAt, Instr.sureAddr, fieldPlace, Try.runUnderlying243, Try.sizeOf17]⟩
instance : Fld Try.prog 243 2 2 := ⟨fun w a => by simp [Instr.fieldAt, Instr.sureAddr, fieldPlace, Try.runUnderlying243, Try.sizeOf17]⟩
instance : Fld Try.prog 243 3 3 := ⟨fun w a => by simp [Instr.fieldAt, Instr.sureAddr, fieldPlace, Try.runUnderlying243, Try.sizeOf9]⟩
instance : Und Try.prog 244 (.array 0 16) := ⟨Try.underlying244⟩
instance : Cel Try.prog 244 0 := ⟨by kernel_rfl⟩
instance : Siz Try.prog 244 0 := ⟨Try.sizeOf244⟩
instance : Agg Try.prog 244 true := ⟨Try.isAgg244⟩
instance : Zer Try.prog 244 (.agg #[]) := ⟨Try.zeroValue244⟩
instance : Inf Try.prog 244 0 0 (.agg #[]) := ⟨inf_of (by kernel_rfl)⟩
instance : Cel Try.prog 245 0 := ⟨by kernel_rfl⟩
instance : Siz Try.prog 245 0 := ⟨Try.sizeOf245⟩
instance : Agg Try.prog 245 true := ⟨Try.isAgg245⟩
instance : Zer Try.prog 245 (.agg #[]) := ⟨Try.zeroValue245⟩
instance : Inf Try.prog 245 0 0 (.agg #[]) := ⟨inf_of (by kernel_rfl)⟩
instance : Plc Try.prog 245 [(0, 0)] := ⟨⟨_, Try.runUnderlying245, fun w => by simp [Try.sizeOf244]⟩⟩
instance : Cel Try.prog 246 0 := ⟨by kernel_rfl⟩
instance : Siz Try.prog 246 0 := ⟨Try.sizeOf246⟩
instance : Agg Try.prog 246 true := ⟨Try.isAgg246⟩
instance : Zer Try.prog 246 (.agg #[]) := ⟨Try.zeroValue246⟩
instance : Inf Try.prog 246 0 0 (.agg #[]) := ⟨inf_of (by kernel_rfl)⟩
instance : Plc Try.prog 246 [(0, 0)] := ⟨⟨_, Try.runUnderlying246, fun w => by simp [Try.sizeOf244]⟩⟩
instance : Und Try.prog 247 (.int .u8) := ⟨Try.underlying247⟩
instance : Cel Try.prog 247 1 := ⟨by kernel_rfl⟩
instance : Siz Try.prog 247 1 := ⟨Try.sizeOf247⟩
instance : Agg Try.prog 247 false := ⟨Try.isAgg247⟩
instance : Zer Try.prog 247 (.int .u8 0) := ⟨Try.zeroValue247⟩
instance : Inf Try.prog 247 1 1 (.int .u8 0) := ⟨inf_of (by kernel_rfl)⟩
instance : Und Try.prog 248 (.int .u8) := ⟨Try.underlying248⟩
instance : Cel Try.prog 248 1 := ⟨by kernel_rfl⟩
instance : Siz Try.prog 248 1 := ⟨Try.sizeOf248⟩
instance : Agg Try.prog 248 false := ⟨Try.isAgg248⟩
instance : Zer Try.prog 248 (.int .u8 0) := ⟨Try.zeroValue248⟩
instance : Inf Try.prog 248 1 1 (.int .u8 0) := ⟨inf_of (by kernel_rfl)⟩
instance : Cel Try.prog 249 1 := ⟨by kernel_rfl⟩
instance : Siz Try.prog 249 1 := ⟨Try.sizeOf249⟩
instance : Agg Try.prog 249 false := ⟨Try.isAgg249⟩
instance : Zer Try.prog 249 (.nilFunc) := ⟨Try.zeroValue249⟩
instance : Inf Try.prog 249 1 8 (.nilFunc) := ⟨inf_of (by kernel_rfl)⟩
instance : Und Try.prog 250 (.pointer 5) := ⟨Try.underlying250⟩
instance : Cel Try.prog 250 1 := ⟨by kernel_rfl⟩
instance : Siz Try.prog 250 1 := ⟨Try.sizeOf250⟩
instance : Agg Try.prog 250 false := ⟨Try.isAgg250⟩
instance : Zer Try.prog 250 (.pointer none) := ⟨Try.zeroValue250⟩
instance : Inf Try.prog 250 1 8 (.pointer none) := ⟨inf_of (by kernel_rfl)⟩
instance : Und Try.prog 251 (.int .i32) := ⟨Try.underlying251⟩
instance : Cel Try.prog 251 1 := ⟨by kernel_rfl⟩
instance : Siz Try.prog 251 1 := ⟨Try.sizeOf251⟩
instance : Agg Try.prog 251 false := ⟨Try.isAgg251⟩
instance : Zer Try.prog 251 (.int .i32 0) := ⟨Try.zeroValue251⟩
instance : Inf Try.prog 251 1 4 (.int .i32 0) := ⟨inf_of (by kernel_rfl)⟩
instance : Und Try.prog 252 (.int .i32) := ⟨Try.underlying252⟩
instance : Cel Try.prog 252 1 := ⟨by kernel_rfl⟩
instance : Siz Try.prog 252 1 := ⟨Try.sizeOf252⟩
instance : Agg Try.prog 252 false := ⟨Try.isAgg252⟩
instance : Zer Try.prog 252 (.int .i32 0) := ⟨Try.zeroValue252⟩
instance : Inf Try.prog 252 1 4 (.int .i32 0) := ⟨inf_of (by kernel_rfl)⟩
instance : Cel Try.prog 253 11 := ⟨by kernel_rfl⟩
instance : Siz Try.prog 253 11 := ⟨Try.sizeOf253⟩
instance : Agg Try.prog 253 true := ⟨Try.isAgg253⟩
instance : Zer Try.prog 253 (.agg #[.int .u64 0, .int .u64 0, .int .u32 0, .int .u8 0, .int .u8 0, .int .u8 0, .int .u8 0, .nilFunc, .pointer none, .int .i32 0, .int .i32 0]) := ⟨Try.zeroValue253⟩
instance : Inf Try.prog 253 11 48 (.agg #[.int .u64 0, .int .u64 0, .int .u32 0, .int .u8 0, .int .u8 0, .int .u8 0, .int .u8 0, .nilFunc, .pointer none, .int .i32 0, .int .i32 0]) := ⟨inf_of (by kernel_rfl)⟩
instance : Plc Try.prog 253 [(0, 1), (1, 1), (2, 1), (3, 1), (4, 1), (5, 1), (6, 1), (7, 1), (8, 1), (9, 1), (10, 1)] := ⟨⟨_, Try.runUnderlying253, fun w => by simp [Try.sizeOf12, Try.sizeOf199, Try.sizeOf247, Try.sizeOf248, Try.sizeOf249, Try.sizeOf250, Try.sizeOf251, Try.sizeOf252, Try.sizeOf5]⟩⟩
instance : Fld Try.prog 253 0 0 := ⟨fun w a => by simp [Instr.fieldAt, Instr.sureAddr, fieldPlace, Try.runUnderlying253, Try.sizeOf12]⟩
instance : Fld Try.prog 253 1 1 := ⟨fun w a => by simp [Instr.fieldAt, Instr.sureAddr, fieldPlace, Try.runUnderlying253, Try.sizeOf12]⟩
instance : Fld Try.prog 253 2 2 := ⟨fun w a => by simp [Instr.fieldAt, Instr.sureAddr, fieldPlace, Try.runUnderlying253, Try.sizeOf199]⟩
instance : Fld Try.prog 253 3 3 := ⟨fun w a => by simp [Instr.fieldAt, Instr.sureAddr, fieldPlace, Try.runUnderlying253, Try.sizeOf247]⟩
instance : Fld Try.prog 253 4 4 := ⟨fun w a => by simp [Instr.fieldAt, Instr.sureAddr, fieldPlace, Try.runUnderlying253, Try.sizeOf5]⟩
instance : Fld Try.prog 253 5 5 := ⟨fun w a => by simp [Instr.fieldAt, Instr.sureAddr, fieldPlace, Try.runUnderlying253, Try.sizeOf5]⟩
instance : Fld Try.prog 253 6 6 := ⟨fun w a => by simp [Instr.fieldAt, Instr.sureAddr, fieldPlace, Try.runUnderlying253, Try.sizeOf248]⟩
instance : Fld Try.prog 253 7 7 := ⟨fun w a => by simp [Instr.fieldAt, Instr.sureAddr, fieldPlace, Try.runUnderlying253, Try.sizeOf249]⟩
instance : Fld Try.prog 253 8 8 := ⟨fun w a => by simp [Instr.fieldAt, Instr.sureAddr, fieldPlace, Try.runUnderlying253, Try.sizeOf250]⟩
instance : Fld Try.prog 253 9 9 := ⟨fun w a => by simp [Instr.fieldAt, Instr.sureAddr, fieldPlace, Try.runUnderlying253, Try.sizeOf251]⟩
instance : Fld Try.prog 253 10 10 := ⟨fun w a => by simp [Instr.fieldAt, Instr.sureAddr, fieldPlace, Try.runUnderlying253, Try.sizeOf252]⟩
instance : Cel Try.prog 254 11 := ⟨by kernel_rfl⟩
instance : Siz Try.prog 254 11 := ⟨Try.sizeOf254⟩
instance : Agg Try.prog 254 true := ⟨Try.isAgg254⟩
instance : Zer Try.prog 254 (.agg #[.int .u64 0, .int .u64 0, .int .u32 0, .int .u8 0, .int .u8 0, .int .u8 0, .int .u8 0, .nilFunc, .pointer none, .int .i32 0, .int .i32 0]) := ⟨Try.zeroValue254⟩
instance : Inf Try.prog 254 11 48 (.agg #[.int .u64 0, .int .u64 0, .int .u32 0, .int .u8 0, .int .u8 0, .int .u8 0, .int .u8 0, .nilFunc, .pointer none, .int .i32 0, .int .i32 0]) := ⟨inf_of (by kernel_rfl)⟩
instance : Plc Try.prog 254 [(0, 1), (1, 1), (2, 1), (3, 1), (4, 1), (5, 1), (6, 1), (7, 1), (8, 1), (9, 1), (10, 1)] := ⟨⟨_, Try.runUnderlying254, fun w => by simp [Try.sizeOf12, Try.sizeOf199, Try.sizeOf247, Try.sizeOf248, Try.sizeOf249, Try.sizeOf250, Try.sizeOf251, Try.sizeOf252, Try.sizeOf5]⟩⟩
instance : Fld Try.prog 254 0 0 := ⟨fun w a => by simp [Instr.fieldAt, Instr.sureAddr, fieldPlace, Try.runUnderlying254, Try.sizeOf12]⟩
instance : Fld Try.prog 254 1 1 := ⟨fun w a => by simp [Instr.fieldAt, Instr.sureAddr, fieldPlace, Try.runUnderlying254, Try.sizeOf12]⟩
instance : Fld Try.prog 254 2 2 := ⟨fun w a => by simp [Instr.fieldAt, Instr.sureAddr, fieldPlace, Try.runUnderlying254, Try.sizeOf199]⟩
instance : Fld Try.prog 254 3 3 := ⟨fun w a => by simp [Instr.fieldAt, Instr.sureAddr, fieldPlace, Try.runUnderlying254, Try.sizeOf247]⟩
instance : Fld Try.prog 254 4 4 := ⟨fun w a => by simp [Instr.fieldAt, Instr.sureAddr, fieldPlace, Try.runUnderlying254, Try.sizeOf5]⟩
instance : Fld Try.prog 254 5 5 := ⟨fun w a => by simp [Instr.fieldAt, Instr.sureAddr, fieldPlace, Try.runUnderlying254, Try.sizeOf5]⟩
instance : Fld Try.prog 254 6 6 := ⟨fun w a => by simp [Instr.fieldAt, Instr.sureAddr, fieldPlace, Try.runUnderlying254, Try.sizeOf248]⟩
instance : Fld Try.prog 254 7 7 := ⟨fun w a => by simp [Instr.fieldAt, Instr.sureAddr, fieldPlace, Try.runUnderlying254, Try.sizeOf249]⟩
instance : Fld Try.prog 254 8 8 := ⟨fun w a => by simp [Instr.fieldAt, Instr.sureAddr, fieldPlace, Try.runUnderlying254, Try.sizeOf250]⟩
instance : Fld Try.prog 254 9 9 := ⟨fun w a => by simp [Instr.fieldAt, Instr.sureAddr, fieldPlace, Try.runUnderlying254, Try.sizeOf251]⟩
instance : Fld Try.prog 254 10 10 := ⟨fun w a => by simp [Instr.fieldAt, Instr.sureAddr, fieldPlace, Try.runUnderlying254, Try.sizeOf252]⟩
instance : Und Try.prog 255 .unsafePointer := ⟨Try.underlying255⟩
instance : Cel Try.prog 255 1 := ⟨by kernel_rfl⟩
instance : Siz Try.prog 255 1 := ⟨Try.sizeOf255⟩
instance : Agg Try.prog 255 false := ⟨Try.isAgg255⟩
instance : Zer Try.prog 255 (.pointer none) := ⟨Try.zeroValue255⟩
instance : Inf Try.prog 255 1 8 (.pointer none) := ⟨inf_of (by kernel_rfl)⟩
instance : Mix Try.prog := ⟨by decide⟩
end Go.Proofs
