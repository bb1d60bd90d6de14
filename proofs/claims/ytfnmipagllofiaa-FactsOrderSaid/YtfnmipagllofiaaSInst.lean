/- The facts on a seat's types, as instances of the abstract logic's classes. No condition. -/
import Derived.Test.YtfnmipagllofiaaOpen
import Derived.Test.YtfnmipagllofiaaOps17
import Derived.Test.YtfnmipagllofiaaProg
namespace Go.Proofs
open Go.AL
instance : Cel Try.prog 0 1 := ⟨by kernel_rfl⟩
instance : Siz Try.prog 0 1 := ⟨Try.sizeOf0⟩
instance : Cel Try.prog 1 1 := ⟨by kernel_rfl⟩
instance : Siz Try.prog 1 1 := ⟨Try.sizeOf1⟩
instance : Agg Try.prog 1 false := ⟨Try.isAgg1⟩
instance : Zer Try.prog 1 (.nilFunc) := ⟨Try.zeroValue1⟩
instance : Inf Try.prog 1 1 8 (.nilFunc) := ⟨inf_of (by kernel_rfl)⟩
instance : Und Try.prog 2 (.int .i64) := ⟨Try.underlying2⟩
instance : Cel Try.prog 2 1 := ⟨by kernel_rfl⟩
instance : Siz Try.prog 2 1 := ⟨Try.sizeOf2⟩
instance : Agg Try.prog 2 false := ⟨Try.isAgg2⟩
instance : Zer Try.prog 2 (.int .i64 0) := ⟨Try.zeroValue2⟩
instance : Inf Try.prog 2 1 8 (.int .i64 0) := ⟨inf_of (by kernel_rfl)⟩
instance : Und Try.prog 3 (.int .i64) := ⟨Try.underlying3⟩
instance : Cel Try.prog 3 1 := ⟨by kernel_rfl⟩
instance : Siz Try.prog 3 1 := ⟨Try.sizeOf3⟩
instance : Agg Try.prog 3 false := ⟨Try.isAgg3⟩
instance : Zer Try.prog 3 (.int .i64 0) := ⟨Try.zeroValue3⟩
instance : Inf Try.prog 3 1 8 (.int .i64 0) := ⟨inf_of (by kernel_rfl)⟩
instance : Und Try.prog 4 .bool := ⟨Try.underlying4⟩
instance : Cel Try.prog 4 1 := ⟨by kernel_rfl⟩
instance : Siz Try.prog 4 1 := ⟨Try.sizeOf4⟩
instance : Agg Try.prog 4 false := ⟨Try.isAgg4⟩
instance : Zer Try.prog 4 (.bool false) := ⟨Try.zeroValue4⟩
instance : Inf Try.prog 4 1 1 (.bool false) := ⟨inf_of (by kernel_rfl)⟩
instance : Und Try.prog 5 (.int .u8) := ⟨Try.underlying5⟩
instance : Cel Try.prog 5 1 := ⟨by kernel_rfl⟩
instance : Siz Try.prog 5 1 := ⟨Try.sizeOf5⟩
instance : Agg Try.prog 5 false := ⟨Try.isAgg5⟩
instance : Zer Try.prog 5 (.int .u8 0) := ⟨Try.zeroValue5⟩
instance : Inf Try.prog 5 1 1 (.int .u8 0) := ⟨inf_of (by kernel_rfl)⟩
instance : Und Try.prog 6 (.int .u8) := ⟨Try.underlying6⟩
instance : Cel Try.prog 6 1 := ⟨by kernel_rfl⟩
instance : Siz Try.prog 6 1 := ⟨Try.sizeOf6⟩
instance : Agg Try.prog 6 false := ⟨Try.isAgg6⟩
instance : Zer Try.prog 6 (.int .u8 0) := ⟨Try.zeroValue6⟩
instance : Inf Try.prog 6 1 1 (.int .u8 0) := ⟨inf_of (by kernel_rfl)⟩
instance : Cel Try.prog 7 4 := ⟨by kernel_rfl⟩
instance : Siz Try.prog 7 4 := ⟨Try.sizeOf7⟩
instance : Agg Try.prog 7 true := ⟨Try.isAgg7⟩
instance : Zer Try.prog 7 (.agg #[.int .i64 0, .int .i64 0, .bool false, .int .u8 0]) := ⟨Try.zeroValue7⟩
instance : Inf Try.prog 7 4 24 (.agg #[.int .i64 0, .int .i64 0, .bool false, .int .u8 0]) := ⟨inf_of (by kernel_rfl)⟩
instance : Plc Try.prog 7 [(0, 1), (1, 1), (2, 1), (3, 1)] := ⟨⟨_, Try.runUnderlying7, fun w => by simp [Try.sizeOf2, Try.sizeOf3, Try.sizeOf4, Try.sizeOf6]⟩⟩
instance : Fld Try.prog 7 0 0 := ⟨fun w a => by simp [Instr.fieldAt, Instr.sureAddr, fieldPlace, Try.runUnderlying7, Try.sizeOf2]⟩
instance : Fld Try.prog 7 1 1 := ⟨fun w a => by simp [Instr.fieldAt, Instr.sureAddr, fieldPlace, Try.runUnderlying7, Try.sizeOf3]⟩
instance : Fld Try.prog 7 2 2 := ⟨fun w a => by simp [Instr.fieldAt, Instr.sureAddr, fieldPlace, Try.runUnderlying7, Try.sizeOf4]⟩
instance : Fld Try.prog 7 3 3 := ⟨fun w a => by simp [Instr.fieldAt, Instr.sureAddr, fieldPlace, Try.runUnderlying7, Try.sizeOf6]⟩
instance : Cel Try.prog 8 4 := ⟨by kernel_rfl⟩
instance : Siz Try.prog 8 4 := ⟨Try.sizeOf8⟩
instance : Agg Try.prog 8 true := ⟨Try.isAgg8⟩
instance : Zer Try.prog 8 (.agg #[.int .i64 0, .int .i64 0, .bool false, .int .u8 0]) := ⟨Try.zeroValue8⟩
instance : Inf Try.prog 8 4 24 (.agg #[.int .i64 0, .int .i64 0, .bool false, .int .u8 0]) := ⟨inf_of (by kernel_rfl)⟩
instance : Plc Try.prog 8 [(0, 1), (1, 1), (2, 1), (3, 1)] := ⟨⟨_, Try.runUnderlying8, fun w => by simp [Try.sizeOf2, Try.sizeOf3, Try.sizeOf4, Try.sizeOf6]⟩⟩
instance : Fld Try.prog 8 0 0 := ⟨fun w a => by simp [Instr.fieldAt, Instr.sureAddr, fieldPlace, Try.runUnderlying8, Try.sizeOf2]⟩
instance : Fld Try.prog 8 1 1 := ⟨fun w a => by simp [Instr.fieldAt, Instr.sureAddr, fieldPlace, Try.runUnderlying8, Try.sizeOf3]⟩
instance : Fld Try.prog 8 2 2 := ⟨fun w a => by simp [Instr.fieldAt, Instr.sureAddr, fieldPlace, Try.runUnderlying8, Try.sizeOf4]⟩
instance : Fld Try.prog 8 3 3 := ⟨fun w a => by simp [Instr.fieldAt, Instr.sureAddr, fieldPlace, Try.runUnderlying8, Try.sizeOf6]⟩
instance : Und Try.prog 9 .string := ⟨Try.underlying9⟩
instance : Cel Try.prog 9 1 := ⟨by kernel_rfl⟩
instance : Siz Try.prog 9 1 := ⟨Try.sizeOf9⟩
instance : Agg Try.prog 9 false := ⟨Try.isAgg9⟩
instance : Zer Try.prog 9 (.string ⟨#[]⟩) := ⟨Try.zeroValue9⟩
instance : Inf Try.prog 9 1 16 (.string ⟨#[]⟩) := ⟨inf_of (by kernel_rfl)⟩
instance : Und Try.prog 10 .string := ⟨Try.underlying10⟩
instance : Cel Try.prog 10 1 := ⟨by kernel_rfl⟩
instance : Siz Try.prog 10 1 := ⟨Try.sizeOf10⟩
instance : Agg Try.prog 10 false := ⟨Try.isAgg10⟩
instance : Zer Try.prog 10 (.string ⟨#[]⟩) := ⟨Try.zeroValue10⟩
instance : Inf Try.prog 10 1 16 (.string ⟨#[]⟩) := ⟨inf_of (by kernel_rfl)⟩
instance : Und Try.prog 11 .string := ⟨Try.underlying11⟩
instance : Cel Try.prog 11 1 := ⟨by kernel_rfl⟩
instance : Siz Try.prog 11 1 := ⟨Try.sizeOf11⟩
instance : Agg Try.prog 11 false := ⟨Try.isAgg11⟩
instance : Zer Try.prog 11 (.string ⟨#[]⟩) := ⟨Try.zeroValue11⟩
instance : Inf Try.prog 11 1 16 (.string ⟨#[]⟩) := ⟨inf_of (by kernel_rfl)⟩
instance : Und Try.prog 12 (.int .u64) := ⟨Try.underlying12⟩
instance : Cel Try.prog 12 1 := ⟨by kernel_rfl⟩
instance : Siz Try.prog 12 1 := ⟨Try.sizeOf12⟩
instance : Agg Try.prog 12 false := ⟨Try.isAgg12⟩
instance : Zer Try.prog 12 (.int .u64 0) := ⟨Try.zeroValue12⟩
instance : Inf Try.prog 12 1 8 (.int .u64 0) := ⟨inf_of (by kernel_rfl)⟩
instance : Cel Try.prog 13 2 := ⟨by kernel_rfl⟩
instance : Siz Try.prog 13 2 := ⟨Try.sizeOf13⟩
instance : Agg Try.prog 13 true := ⟨Try.isAgg13⟩
instance : Zer Try.prog 13 (.agg #[.string ⟨#[]⟩, .int .u64 0]) := ⟨Try.zeroValue13⟩
instance : Inf Try.prog 13 2 24 (.agg #[.string ⟨#[]⟩, .int .u64 0]) := ⟨inf_of (by kernel_rfl)⟩
instance : Plc Try.prog 13 [(0, 1), (1, 1)] := ⟨⟨_, Try.runUnderlying13, fun w => by simp [Try.sizeOf12, Try.sizeOf9]⟩⟩
instance : Fld Try.prog 13 0 0 := ⟨fun w a => by simp [Instr.fieldAt, Instr.sureAddr, fieldPlace, Try.runUnderlying13, Try.sizeOf9]⟩
instance : Fld Try.prog 13 1 1 := ⟨fun w a => by simp [Instr.fieldAt, Instr.sureAddr, fieldPlace, Try.runUnderlying13, Try.sizeOf12]⟩
instance : Cel Try.prog 14 2 := ⟨by kernel_rfl⟩
instance : Siz Try.prog 14 2 := ⟨Try.sizeOf14⟩
instance : Agg Try.prog 14 true := ⟨Try.isAgg14⟩
instance : Zer Try.prog 14 (.agg #[.string ⟨#[]⟩, .int .u64 0]) := ⟨Try.zeroValue14⟩
instance : Inf Try.prog 14 2 24 (.agg #[.string ⟨#[]⟩, .int .u64 0]) := ⟨inf_of (by kernel_rfl)⟩
instance : Plc Try.prog 14 [(0, 1), (1, 1)] := ⟨⟨_, Try.runUnderlying14, fun w => by simp [Try.sizeOf12, Try.sizeOf9]⟩⟩
instance : Fld Try.prog 14 0 0 := ⟨fun w a => by simp [Instr.fieldAt, Instr.sureAddr, fieldPlace, Try.runUnderlying14, Try.sizeOf9]⟩
instance : Fld Try.prog 14 1 1 := ⟨fun w a => by simp [Instr.fieldAt, Instr.sureAddr, fieldPlace, Try.runUnderlying14, Try.sizeOf12]⟩
instance : Und Try.prog 15 (.pointer 149) := ⟨Try.underlying15⟩
instance : Cel Try.prog 15 1 := ⟨by kernel_rfl⟩
instance : Siz Try.prog 15 1 := ⟨Try.sizeOf15⟩
instance : Agg Try.prog 15 false := ⟨Try.isAgg15⟩
instance : Zer Try.prog 15 (.pointer none) := ⟨Try.zeroValue15⟩
instance : Inf Try.prog 15 1 8 (.pointer none) := ⟨inf_of (by kernel_rfl)⟩
instance : Und Try.prog 16 (.pointer 152) := ⟨Try.underlying16⟩
instance : Cel Try.prog 16 1 := ⟨by kernel_rfl⟩
instance : Siz Try.prog 16 1 := ⟨Try.sizeOf16⟩
instance : Agg Try.prog 16 false := ⟨Try.isAgg16⟩
instance : Zer Try.prog 16 (.pointer none) := ⟨Try.zeroValue16⟩
instance : Inf Try.prog 16 1 8 (.pointer none) := ⟨inf_of (by kernel_rfl)⟩
instance : Und Try.prog 17 (.pointer 161) := ⟨Try.underlying17⟩
instance : Cel Try.prog 17 1 := ⟨by kernel_rfl⟩
instance : Siz Try.prog 17 1 := ⟨Try.sizeOf17⟩
instance : Agg Try.prog 17 false := ⟨Try.isAgg17⟩
instance : Zer Try.prog 17 (.pointer none) := ⟨Try.zeroValue17⟩
instance : Inf Try.prog 17 1 8 (.pointer none) := ⟨inf_of (by kernel_rfl)⟩
instance : Cel Try.prog 18 1 := ⟨by kernel_rfl⟩
instance : Siz Try.prog 18 1 := ⟨Try.sizeOf18⟩
instance : Agg Try.prog 18 true := ⟨Try.isAgg18⟩
instance : Zer Try.prog 18 (.agg #[.pointer none]) := ⟨Try.zeroValue18⟩
instance : Inf Try.prog 18 1 8 (.agg #[.pointer none]) := ⟨inf_of (by kernel_rfl)⟩
instance : Plc Try.prog 18 [(0, 1)] := ⟨⟨_, Try.runUnderlying18, fun w => by simp [Try.sizeOf17]⟩⟩
instance : Fld Try.prog 18 0 0 := ⟨fun w a => by simp [Instr.fieldAt, Instr.sureAddr, fieldPlace, Try.runUnderlying18, Try.sizeOf17]⟩
instance : Cel Try.prog 19 1 := ⟨by kernel_rfl⟩
instance : Siz Try.prog 19 1 := ⟨Try.sizeOf19⟩
instance : Agg Try.prog 19 true := ⟨Try.isAgg19⟩
instance : Zer Try.prog 19 (.agg #[.pointer none]) := ⟨Try.zeroValue19⟩
instance : Inf Try.prog 19 1 8 (.agg #[.pointer none]) := ⟨inf_of (by kernel_rfl)⟩
instance : Plc Try.prog 19 [(0, 1)] := ⟨⟨_, Try.runUnderlying19, fun w => by simp [Try.sizeOf17]⟩⟩
instance : Fld Try.prog 19 0 0 := ⟨fun w a => by simp [Instr.fieldAt, Instr.sureAddr, fieldPlace, Try.runUnderlying19, Try.sizeOf17]⟩
instance : Ifc Try.prog 20 := ⟨⟨_, Try.underlying20⟩⟩
instance : Cel Try.prog 20 1 := ⟨by kernel_rfl⟩
instance : Siz Try.prog 20 1 := ⟨Try.sizeOf20⟩
instance : Agg Try.prog 20 false := ⟨Try.isAgg20⟩
instance : Zer Try.prog 20 (.nilIface) := ⟨Try.zeroValue20⟩
instance : Inf Try.prog 20 1 16 (.nilIface) := ⟨inf_of (by kernel_rfl)⟩
instance : Und Try.prog 21 (.int .i32) := ⟨Try.underlying21⟩
instance : Cel Try.prog 21 1 := ⟨by kernel_rfl⟩
instance : Siz Try.prog 21 1 := ⟨Try.sizeOf21⟩
instance : Agg Try.prog 21 false := ⟨Try.isAgg21⟩
instance : Zer Try.prog 21 (.int .i32 0) := ⟨Try.zeroValue21⟩
instance : Inf Try.prog 21 1 4 (.int .i32 0) := ⟨inf_of (by kernel_rfl)⟩
instance : Und Try.prog 22 (.slice 48) := ⟨Try.underlying22⟩
instance : Cel Try.prog 22 1 := ⟨by kernel_rfl⟩
instance : Siz Try.prog 22 1 := ⟨Try.sizeOf22⟩
instance : Agg Try.prog 22 false := ⟨Try.isAgg22⟩
instance : Zer Try.prog 22 (.slice none 0 0) := ⟨Try.zeroValue22⟩
instance : Inf Try.prog 22 1 24 (.slice none 0 0) := ⟨inf_of (by kernel_rfl)⟩
instance : Cel Try.prog 23 1 := ⟨by kernel_rfl⟩
instance : Siz Try.prog 23 1 := ⟨Try.sizeOf23⟩
instance : Agg Try.prog 23 false := ⟨Try.isAgg23⟩
instance : Zer Try.prog 23 (.nilFunc) := ⟨Try.zeroValue23⟩
instance : Inf Try.prog 23 1 8 (.nilFunc) := ⟨inf_of (by kernel_rfl)⟩
instance : Und Try.prog 24 (.int .i64) := ⟨Try.underlying24⟩
instance : Cel Try.prog 24 1 := ⟨by kernel_rfl⟩
instance : Siz Try.prog 24 1 := ⟨Try.sizeOf24⟩
instance : Agg Try.prog 24 false := ⟨Try.isAgg24⟩
instance : Zer Try.prog 24 (.int .i64 0) := ⟨Try.zeroValue24⟩
instance : Inf Try.prog 24 1 8 (.int .i64 0) := ⟨inf_of (by kernel_rfl)⟩
instance : Cel Try.prog 25 1 := ⟨by kernel_rfl⟩
instance : Siz Try.prog 25 1 := ⟨Try.sizeOf25⟩
instance : Cel Try.prog 26 1 := ⟨by kernel_rfl⟩
instance : Siz Try.prog 26 1 := ⟨Try.sizeOf26⟩
instance : Agg Try.prog 26 false := ⟨Try.isAgg26⟩
instance : Zer Try.prog 26 (.nilFunc) := ⟨Try.zeroValue26⟩
instance : Inf Try.prog 26 1 8 (.nilFunc) := ⟨inf_of (by kernel_rfl)⟩
instance : Cel Try.prog 27 1 := ⟨by kernel_rfl⟩
instance : Siz Try.prog 27 1 := ⟨Try.sizeOf27⟩
instance : Agg Try.prog 27 false := ⟨Try.isAgg27⟩
instance : Zer Try.prog 27 (.nilFunc) := ⟨Try.zeroValue27⟩
instance : Inf Try.prog 27 1 8 (.nilFunc) := ⟨inf_of (by kernel_rfl)⟩
instance : Cel Try.prog 28 1 := ⟨by kernel_rfl⟩
instance : Siz Try.prog 28 1 := ⟨Try.sizeOf28⟩
instance : Agg Try.prog 28 false := ⟨Try.isAgg28⟩
instance : Zer Try.prog 28 (.nilFunc) := ⟨Try.zeroValue28⟩
instance : Inf Try.prog 28 1 8 (.nilFunc) := ⟨inf_of (by kernel_rfl)⟩
instance : Cel Try.prog 29 1 := ⟨by kernel_rfl⟩
instance : Siz Try.prog 29 1 := ⟨Try.sizeOf29⟩
instance : Agg Try.prog 29 false := ⟨Try.isAgg29⟩
instance : Zer Try.prog 29 (.nilFunc) := ⟨Try.zeroValue29⟩
instance : Inf Try.prog 29 1 8 (.nilFunc) := ⟨inf_of (by kernel_rfl)⟩
instance : Cel Try.prog 30 1 := ⟨by kernel_rfl⟩
instance : Siz Try.prog 30 1 := ⟨Try.sizeOf30⟩
instance : Agg Try.prog 30 false := ⟨Try.isAgg30⟩
instance : Zer Try.prog 30 (.nilFunc) := ⟨Try.zeroValue30⟩
instance : Inf Try.prog 30 1 8 (.nilFunc) := ⟨inf_of (by kernel_rfl)⟩
instance : Cel Try.prog 31 1 := ⟨by kernel_rfl⟩
instance : Siz Try.prog 31 1 := ⟨Try.sizeOf31⟩
instance : Cel Try.prog 32 1 := ⟨by kernel_rfl⟩
instance : Siz Try.prog 32 1 := ⟨Try.sizeOf32⟩
instance : Agg Try.prog 32 false := ⟨Try.isAgg32⟩
instance : Zer Try.prog 32 (.nilFunc) := ⟨Try.zeroValue32⟩
instance : Inf Try.prog 32 1 8 (.nilFunc) := ⟨inf_of (by kernel_rfl)⟩
instance : Cel Try.prog 33 1 := ⟨by kernel_rfl⟩
instance : Siz Try.prog 33 1 := ⟨Try.sizeOf33⟩
instance : Agg Try.prog 33 false := ⟨Try.isAgg33⟩
instance : Zer Try.prog 33 (.nilFunc) := ⟨Try.zeroValue33⟩
instance : Inf Try.prog 33 1 8 (.nilFunc) := ⟨inf_of (by kernel_rfl)⟩
instance : Cel Try.prog 34 1 := ⟨by kernel_rfl⟩
instance : Siz Try.prog 34 1 := ⟨Try.sizeOf34⟩
instance : Agg Try.prog 34 false := ⟨Try.isAgg34⟩
instance : Zer Try.prog 34 (.nilFunc) := ⟨Try.zeroValue34⟩
instance : Inf Try.prog 34 1 8 (.nilFunc) := ⟨inf_of (by kernel_rfl)⟩
instance : Cel Try.prog 35 1 := ⟨by kernel_rfl⟩
instance : Siz Try.prog 35 1 := ⟨Try.sizeOf35⟩
instance : Agg Try.prog 35 false := ⟨Try.isAgg35⟩
instance : Zer Try.prog 35 (.nilFunc) := ⟨Try.zeroValue35⟩
instance : Inf Try.prog 35 1 8 (.nilFunc) := ⟨inf_of (by kernel_rfl)⟩
instance : Und Try.prog 36 (.slice 41) := ⟨Try.underlying36⟩
instance : Cel Try.prog 36 1 := ⟨by kernel_rfl⟩
instance : Siz Try.prog 36 1 := ⟨Try.sizeOf36⟩
instance : Agg Try.prog 36 false := ⟨Try.isAgg36⟩
instance : Zer Try.prog 36 (.slice none 0 0) := ⟨Try.zeroValue36⟩
instance : Inf Try.prog 36 1 24 (.slice none 0 0) := ⟨inf_of (by kernel_rfl)⟩
instance : Cel Try.prog 37 1 := ⟨by kernel_rfl⟩
instance : Siz Try.prog 37 1 := ⟨Try.sizeOf37⟩
instance : Agg Try.prog 37 false := ⟨Try.isAgg37⟩
instance : Zer Try.prog 37 (.nilFunc) := ⟨Try.zeroValue37⟩
instance : Inf Try.prog 37 1 8 (.nilFunc) := ⟨inf_of (by kernel_rfl)⟩
instance : Cel Try.prog 38 3 := ⟨by kernel_rfl⟩
instance : Siz Try.prog 38 3 := ⟨Try.sizeOf38⟩
instance : Agg Try.prog 38 true := ⟨Try.isAgg38⟩
instance : Zer Try.prog 38 (.agg #[.int .i64 0, .int .i64 0, .string ⟨#[]⟩]) := ⟨Try.zeroValue38⟩
instance : Inf Try.prog 38 3 32 (.agg #[.int .i64 0, .int .i64 0, .string ⟨#[]⟩]) := ⟨inf_of (by kernel_rfl)⟩
instance : Plc Try.prog 38 [(0, 1), (1, 1), (2, 1)] := ⟨⟨_, Try.runUnderlying38, fun w => by simp [Try.sizeOf2, Try.sizeOf3, Try.sizeOf9]⟩⟩
instance : Fld Try.prog 38 0 0 := ⟨fun w a => by simp [Instr.fieldAt, Instr.sureAddr, fieldPlace, Try.runUnderlying38, Try.sizeOf3]⟩
instance : Fld Try.prog 38 1 1 := ⟨fun w a => by simp [Instr.fieldAt, Instr.sureAddr, fieldPlace, Try.runUnderlying38, Try.sizeOf2]⟩
instance : Fld Try.prog 38 2 2 := ⟨fun w a => by simp [Instr.fieldAt, Instr.sureAddr, fieldPlace, Try.runUnderlying38, Try.sizeOf9]⟩
instance : Cel Try.prog 39 3 := ⟨by kernel_rfl⟩
instance : Siz Try.prog 39 3 := ⟨Try.sizeOf39⟩
instance : Agg Try.prog 39 true := ⟨Try.isAgg39⟩
instance : Zer Try.prog 39 (.agg #[.int .i64 0, .int .i64 0, .string ⟨#[]⟩]) := ⟨Try.zeroValue39⟩
instance : Inf Try.prog 39 3 32 (.agg #[.int .i64 0, .int .i64 0, .string ⟨#[]⟩]) := ⟨inf_of (by kernel_rfl)⟩
instance : Plc Try.prog 39 [(0, 1), (1, 1), (2, 1)] := ⟨⟨_, Try.runUnderlying39, fun w => by simp [Try.sizeOf2, Try.sizeOf3, Try.sizeOf9]⟩⟩
instance : Fld Try.prog 39 0 0 := ⟨fun w a => by simp [Instr.fieldAt, Instr.sureAddr, fieldPlace, Try.runUnderlying39, Try.sizeOf3]⟩
instance : Fld Try.prog 39 1 1 := ⟨fun w a => by simp [Instr.fieldAt, Instr.sureAddr, fieldPlace, Try.runUnderlying39, Try.sizeOf2]⟩
instance : Fld Try.prog 39 2 2 := ⟨fun w a => by simp [Instr.fieldAt, Instr.sureAddr, fieldPlace, Try.runUnderlying39, Try.sizeOf9]⟩
instance : Cel Try.prog 40 9 := ⟨by kernel_rfl⟩
instance : Siz Try.prog 40 9 := ⟨Try.sizeOf40⟩
instance : Agg Try.prog 40 true := ⟨Try.isAgg40⟩
instance : Zer Try.prog 40 (.agg #[.int .i64 0, .int .i64 0, .int .i64 0, .int .i64 0, .string ⟨#[]⟩, .int .i64 0, .bool false, .int .i64 0, .int .i64 0]) := ⟨Try.zeroValue40⟩
instance : Inf Try.prog 40 9 80 (.agg #[.int .i64 0, .int .i64 0, .int .i64 0, .int .i64 0, .string ⟨#[]⟩, .int .i64 0, .bool false, .int .i64 0, .int .i64 0]) := ⟨inf_of (by kernel_rfl)⟩
instance : Plc Try.prog 40 [(0, 1), (1, 1), (2, 3), (5, 1), (6, 1), (7, 1), (8, 1)] := ⟨⟨_, Try.runUnderlying40, fun w => by simp [Try.sizeOf2, Try.sizeOf39, Try.sizeOf4]⟩⟩
instance : Fld Try.prog 40 0 0 := ⟨fun w a => by simp [Instr.fieldAt, Instr.sureAddr, fieldPlace, Try.runUnderlying40, Try.sizeOf2]⟩
instance : Fld Try.prog 40 1 1 := ⟨fun w a => by simp [Instr.fieldAt, Instr.sureAddr, fieldPlace, Try.runUnderlying40, Try.sizeOf2]⟩
instance : Fld Try.prog 40 2 2 := ⟨fun w a => by simp [Instr.fieldAt, Instr.sureAddr, fieldPlace, Try.runUnderlying40, Try.sizeOf39]⟩
instance : Fld Try.prog 40 3 5 := ⟨fun w a => by simp [Instr.fieldAt, Instr.sureAddr, fieldPlace, Try.runUnderlying40, Try.sizeOf2]⟩
instance : Fld Try.prog 40 4 6 := ⟨fun w a => by simp [Instr.fieldAt, Instr.sureAddr, fieldPlace, Try.runUnderlying40, Try.sizeOf4]⟩
instance : Fld Try.prog 40 5 7 := ⟨fun w a => by simp [Instr.fieldAt, Instr.sureAddr, fieldPlace, Try.runUnderlying40, Try.sizeOf2]⟩
instance : Fld Try.prog 40 6 8 := ⟨fun w a => by simp [Instr.fieldAt, Instr.sureAddr, fieldPlace, Try.runUnderlying40, Try.sizeOf2]⟩
instance : Cel Try.prog 41 9 := ⟨by kernel_rfl⟩
instance : Siz Try.prog 41 9 := ⟨Try.sizeOf41⟩
instance : Agg Try.prog 41 true := ⟨Try.isAgg41⟩
instance : Zer Try.prog 41 (.agg #[.int .i64 0, .int .i64 0, .int .i64 0, .int .i64 0, .string ⟨#[]⟩, .int .i64 0, .bool false, .int .i64 0, .int .i64 0]) := ⟨Try.zeroValue41⟩
instance : Inf Try.prog 41 9 80 (.agg #[.int .i64 0, .int .i64 0, .int .i64 0, .int .i64 0, .string ⟨#[]⟩, .int .i64 0, .bool false, .int .i64 0, .int .i64 0]) := ⟨inf_of (by kernel_rfl)⟩
instance : Plc Try.prog 41 [(0, 1), (1, 1), (2, 3), (5, 1), (6, 1), (7, 1), (8, 1)] := ⟨⟨_, Try.runUnderlying41, fun w => by simp [Try.sizeOf2, Try.sizeOf39, Try.sizeOf4]⟩⟩
instance : Fld Try.prog 41 0 0 := ⟨fun w a => by simp [Instr.fieldAt, Instr.sureAddr, fieldPlace, Try.runUnderlying41, Try.sizeOf2]⟩
instance : Fld Try.prog 41 1 1 := ⟨fun w a => by simp [Instr.fieldAt, Instr.sureAddr, fieldPlace, Try.runUnderlying41, Try.sizeOf2]⟩
instance : Fld Try.prog 41 2 2 := ⟨fun w a => by simp [Instr.fieldAt, Instr.sureAddr, fieldPlace, Try.runUnderlying41, Try.sizeOf39]⟩
instance : Fld Try.prog 41 3 5 := ⟨fun w a => by simp [Instr.fieldAt, Instr.sureAddr, fieldPlace, Try.runUnderlying41, Try.sizeOf2]⟩
instance : Fld Try.prog 41 4 6 := ⟨fun w a => by simp [Instr.fieldAt, Instr.sureAddr, fieldPlace, Try.runUnderlying41, Try.sizeOf4]⟩
instance : Fld Try.prog 41 5 7 := ⟨fun w a => by simp [Instr.fieldAt, Instr.sureAddr, fieldPlace, Try.runUnderlying41, Try.sizeOf2]⟩
instance : Fld Try.prog 41 6 8 := ⟨fun w a => by simp [Instr.fieldAt, Instr.sureAddr, fieldPlace, Try.runUnderlying41, Try.sizeOf2]⟩
instance : Und Try.prog 42 (.slice 57) := ⟨Try.underlying42⟩
instance : Cel Try.prog 42 1 := ⟨by kernel_rfl⟩
instance : Siz Try.prog 42 1 := ⟨Try.sizeOf42⟩
instance : Agg Try.prog 42 false := ⟨Try.isAgg42⟩
instance : Zer Try.prog 42 (.slice none 0 0) := ⟨Try.zeroValue42⟩
instance : Inf Try.prog 42 1 24 (.slice none 0 0) := ⟨inf_of (by kernel_rfl)⟩
instance : Cel Try.prog 43 1 := ⟨by kernel_rfl⟩
instance : Siz Try.prog 43 1 := ⟨Try.sizeOf43⟩
instance : Cel Try.prog 44 1 := ⟨by kernel_rfl⟩
instance : Siz Try.prog 44 1 := ⟨Try.sizeOf44⟩
instance : Agg Try.prog 44 false := ⟨Try.isAgg44⟩
instance : Zer Try.prog 44 (.nilFunc) := ⟨Try.zeroValue44⟩
instance : Inf Try.prog 44 1 8 (.nilFunc) := ⟨inf_of (by kernel_rfl)⟩
instance : Cel Try.prog 45 1 := ⟨by kernel_rfl⟩
instance : Siz Try.prog 45 1 := ⟨Try.sizeOf45⟩
instance : Agg Try.prog 45 false := ⟨Try.isAgg45⟩
instance : Zer Try.prog 45 (.nilFunc) := ⟨Try.zeroValue45⟩
instance : Inf Try.prog 45 1 8 (.nilFunc) := ⟨inf_of (by kernel_rfl)⟩
instance : Cel Try.prog 46 1 := ⟨by kernel_rfl⟩
instance : Siz Try.prog 46 1 := ⟨Try.sizeOf46⟩
instance : Agg Try.prog 46 false := ⟨Try.isAgg46⟩
instance : Zer Try.prog 46 (.nilFunc) := ⟨Try.zeroValue46⟩
instance : Inf Try.prog 46 1 8 (.nilFunc) := ⟨inf_of (by kernel_rfl)⟩
instance : Cel Try.prog 47 2 := ⟨by kernel_rfl⟩
instance : Siz Try.prog 47 2 := ⟨Try.sizeOf47⟩
instance : Agg Try.prog 47 true := ⟨Try.isAgg47⟩
instance : Zer Try.prog 47 (.agg #[.int .i64 0, .int .i64 0]) := ⟨Try.zeroValue47⟩
instance : Inf Try.prog 47 2 16 (.agg #[.int .i64 0, .int .i64 0]) := ⟨inf_of (by kernel_rfl)⟩
instance : Plc Try.prog 47 [(0, 1), (1, 1)] := ⟨⟨_, Try.runUnderlying47, fun w => by simp [Try.sizeOf2]⟩⟩
instance : Fld Try.prog 47 0 0 := ⟨fun w a => by simp [Instr.fieldAt, Instr.sureAddr, fieldPlace, Try.runUnderlying47, Try.sizeOf2]⟩
instance : Fld Try.prog 47 1 1 := ⟨fun w a => by simp [Instr.fieldAt, Instr.sureAddr, fieldPlace, Try.runUnderlying47, Try.sizeOf2]⟩
instance : Cel Try.prog 48 2 := ⟨by kernel_rfl⟩
instance : Siz Try.prog 48 2 := ⟨Try.sizeOf48⟩
instance : Agg Try.prog 48 true := ⟨Try.isAgg48⟩
instance : Zer Try.prog 48 (.agg #[.int .i64 0, .int .i64 0]) := ⟨Try.zeroValue48⟩
instance : Inf Try.prog 48 2 16 (.agg #[.int .i64 0, .int .i64 0]) := ⟨inf_of (by kernel_rfl)⟩
instance : Plc Try.prog 48 [(0, 1), (1, 1)] := ⟨⟨_, Try.runUnderlying48, fun w => by simp [Try.sizeOf2]⟩⟩
instance : Fld Try.prog 48 0 0 := ⟨fun w a => by simp [Instr.fieldAt, Instr.sureAddr, fieldPlace, Try.runUnderlying48, Try.sizeOf2]⟩
instance : Fld Try.prog 48 1 1 := ⟨fun w a => by simp [Instr.fieldAt, Instr.sureAddr, fieldPlace, Try.runUnderlying48, Try.sizeOf2]⟩
instance : Cel Try.prog 49 1 := ⟨by kernel_rfl⟩
instance : Siz Try.prog 49 1 := ⟨Try.sizeOf49⟩
instance : Agg Try.prog 49 false := ⟨Try.isAgg49⟩
instance : Zer Try.prog 49 (.nilFunc) := ⟨Try.zeroValue49⟩
instance : Inf Try.prog 49 1 8 (.nilFunc) := ⟨inf_of (by kernel_rfl)⟩
instance : Cel Try.prog 50 1 := ⟨by kernel_rfl⟩
instance : Siz Try.prog 50 1 := ⟨Try.sizeOf50⟩
instance : Agg Try.prog 50 false := ⟨Try.isAgg50⟩
instance : Zer Try.prog 50 (.nilFunc) := ⟨Try.zeroValue50⟩
instance : Inf Try.prog 50 1 8 (.nilFunc) := ⟨inf_of (by kernel_rfl)⟩
instance : Cel Try.prog 51 1 := ⟨by kernel_rfl⟩
instance : Siz Try.prog 51 1 := ⟨Try.sizeOf51⟩
instance : Agg Try.prog 51 false := ⟨Try.isAgg51⟩
instance : Zer Try.prog 51 (.nilFunc) := ⟨Try.zeroValue51⟩
instance : Inf Try.prog 51 1 8 (.nilFunc) := ⟨inf_of (by kernel_rfl)⟩
instance : Cel Try.prog 52 1 := ⟨by kernel_rfl⟩
instance : Siz Try.prog 52 1 := ⟨Try.sizeOf52⟩
instance : Agg Try.prog 52 false := ⟨Try.isAgg52⟩
instance : Zer Try.prog 52 (.nilFunc) := ⟨Try.zeroValue52⟩
instance : Inf Try.prog 52 1 8 (.nilFunc) := ⟨inf_of (by kernel_rfl)⟩
instance : Cel Try.prog 53 1 := ⟨by kernel_rfl⟩
instance : Siz Try.prog 53 1 := ⟨Try.sizeOf53⟩
instance : Agg Try.prog 53 false := ⟨Try.isAgg53⟩
instance : Zer Try.prog 53 (.nilFunc) := ⟨Try.zeroValue53⟩
instance : Inf Try.prog 53 1 8 (.nilFunc) := ⟨inf_of (by kernel_rfl)⟩
instance : Cel Try.prog 54 1 := ⟨by kernel_rfl⟩
instance : Siz Try.prog 54 1 := ⟨Try.sizeOf54⟩
instance : Agg Try.prog 54 false := ⟨Try.isAgg54⟩
instance : Zer Try.prog 54 (.nilFunc) := ⟨Try.zeroValue54⟩
instance : Inf Try.prog 54 1 8 (.nilFunc) := ⟨inf_of (by kernel_rfl)⟩
instance : Cel Try.prog 55 1 := ⟨by kernel_rfl⟩
instance : Siz Try.prog 55 1 := ⟨Try.sizeOf55⟩
instance : Agg Try.prog 55 false := ⟨Try.isAgg55⟩
instance : Zer Try.prog 55 (.nilFunc) := ⟨Try.zeroValue55⟩
instance : Inf Try.prog 55 1 8 (.nilFunc) := ⟨inf_of (by kernel_rfl)⟩
instance : Cel Try.prog 56 6 := ⟨by kernel_rfl⟩
instance : Siz Try.prog 56 6 := ⟨Try.sizeOf56⟩
instance : Agg Try.prog 56 true := ⟨Try.isAgg56⟩
instance : Zer Try.prog 56 (.agg #[.int .i64 0, .int .i64 0, .int .i64 0, .int .i64 0, .string ⟨#[]⟩, .slice none 0 0]) := ⟨Try.zeroValue56⟩
instance : Inf Try.prog 56 6 72 (.agg #[.int .i64 0, .int .i64 0, .int .i64 0, .int .i64 0, .string ⟨#[]⟩, .slice none 0 0]) := ⟨inf_of (by kernel_rfl)⟩
instance : Plc Try.prog 56 [(0, 1), (1, 1), (2, 3), (5, 1)] := ⟨⟨_, Try.runUnderlying56, fun w => by simp [Try.sizeOf2, Try.sizeOf22, Try.sizeOf39]⟩⟩
instance : Fld Try.prog 56 0 0 := ⟨fun w a => by simp [Instr.fieldAt, Instr.sureAddr, fieldPlace, Try.runUnderlying56, Try.sizeOf2]⟩
instance : Fld Try.prog 56 1 1 := ⟨fun w a => by simp [Instr.fieldAt, Instr.sureAddr, fieldPlace, Try.runUnderlying56, Try.sizeOf2]⟩
instance : Fld Try.prog 56 2 2 := ⟨fun w a => by simp [Instr.fieldAt, Instr.sureAddr, fieldPlace, Try.runUnderlying56, Try.sizeOf39]⟩
instance : Fld Try.prog 56 3 5 := ⟨fun w a => by simp [Instr.fieldAt, Instr.sureAddr, fieldPlace, Try.runUnderlying56, Try.sizeOf22]⟩
instance : Cel Try.prog 57 6 := ⟨by kernel_rfl⟩
instance : Siz Try.prog 57 6 := ⟨Try.sizeOf57⟩
instance : Agg Try.prog 57 true := ⟨Try.isAgg57⟩
instance : Zer Try.prog 57 (.agg #[.int .i64 0, .int .i64 0, .int .i64 0, .int .i64 0, .string ⟨#[]⟩, .slice none 0 0]) := ⟨Try.zeroValue57⟩
instance : Inf Try.prog 57 6 72 (.agg #[.int .i64 0, .int .i64 0, .int .i64 0, .int .i64 0, .string ⟨#[]⟩, .slice none 0 0]) := ⟨inf_of (by kernel_rfl)⟩
instance : Plc Try.prog 57 [(0, 1), (1, 1), (2, 3), (5, 1)] := ⟨⟨_, Try.runUnderlying57, fun w => by simp [Try.sizeOf2, Try.sizeOf22, Try.sizeOf39]⟩⟩
instance : Fld Try.prog 57 0 0 := ⟨fun w a => by simp [Instr.fieldAt, Instr.sureAddr, fieldPlace, Try.runUnderlying57, Try.sizeOf2]⟩
instance : Fld Try.prog 57 1 1 := ⟨fun w a => by simp [Instr.fieldAt, Instr.sureAddr, fieldPlace, Try.runUnderlying57, Try.sizeOf2]⟩
instance : Fld Try.prog 57 2 2 := ⟨fun w a => by simp [Instr.fieldAt, Instr.sureAddr, fieldPlace, Try.runUnderlying57, Try.sizeOf39]⟩
instance : Fld Try.prog 57 3 5 := ⟨fun w a => by simp [Instr.fieldAt, Instr.sureAddr, fieldPlace, Try.runUnderlying57, Try.sizeOf22]⟩
instance : Cel Try.prog 58 1 := ⟨by kernel_rfl⟩
instance : Siz Try.prog 58 1 := ⟨Try.sizeOf58⟩
instance : Agg Try.prog 58 false := ⟨Try.isAgg58⟩
instance : Zer Try.prog 58 (.nilFunc) := ⟨Try.zeroValue58⟩
instance : Inf Try.prog 58 1 8 (.nilFunc) := ⟨inf_of (by kernel_rfl)⟩
instance : Cel Try.prog 59 1 := ⟨by kernel_rfl⟩
instance : Siz Try.prog 59 1 := ⟨Try.sizeOf59⟩
instance : Agg Try.prog 59 false := ⟨Try.isAgg59⟩
instance : Zer Try.prog 59 (.nilFunc) := ⟨Try.zeroValue59⟩
instance : Inf Try.prog 59 1 8 (.nilFunc) := ⟨inf_of (by kernel_rfl)⟩
instance : Cel Try.prog 60 1 := ⟨by kernel_rfl⟩
instance : Siz Try.prog 60 1 := ⟨Try.sizeOf60⟩
instance : Agg Try.prog 60 false := ⟨Try.isAgg60⟩
instance : Zer Try.prog 60 (.nilFunc) := ⟨Try.zeroValue60⟩
instance : Inf Try.prog 60 1 8 (.nilFunc) := ⟨inf_of (by kernel_rfl)⟩
instance : Cel Try.prog 61 1 := ⟨by kernel_rfl⟩
instance : Siz Try.prog 61 1 := ⟨Try.sizeOf61⟩
instance : Agg Try.prog 61 false := ⟨Try.isAgg61⟩
instance : Zer Try.prog 61 (.nilFunc) := ⟨Try.zeroValue61⟩
instance : Inf Try.prog 61 1 8 (.nilFunc) := ⟨inf_of (by kernel_rfl)⟩
instance : Cel Try.prog 62 1 := ⟨by kernel_rfl⟩
instance : Siz Try.prog 62 1 := ⟨Try.sizeOf62⟩
instance : Agg Try.prog 62 false := ⟨Try.isAgg62⟩
instance : Zer Try.prog 62 (.nilFunc) := ⟨Try.zeroValue62⟩
instance : Inf Try.prog 62 1 8 (.nilFunc) := ⟨inf_of (by kernel_rfl)⟩
instance : Cel Try.prog 63 1 := ⟨by kernel_rfl⟩
instance : Siz Try.prog 63 1 := ⟨Try.sizeOf63⟩
instance : Cel Try.prog 64 1 := ⟨by kernel_rfl⟩
instance : Siz Try.prog 64 1 := ⟨Try.sizeOf64⟩
instance : Agg Try.prog 64 false := ⟨Try.isAgg64⟩
instance : Zer Try.prog 64 (.nilFunc) := ⟨Try.zeroValue64⟩
instance : Inf Try.prog 64 1 8 (.nilFunc) := ⟨inf_of (by kernel_rfl)⟩
instance : Cel Try.prog 65 1 := ⟨by kernel_rfl⟩
instance : Siz Try.prog 65 1 := ⟨Try.sizeOf65⟩
instance : Agg Try.prog 65 false := ⟨Try.isAgg65⟩
instance : Zer Try.prog 65 (.nilFunc) := ⟨Try.zeroValue65⟩
instance : Inf Try.prog 65 1 8 (.nilFunc) := ⟨inf_of (by kernel_rfl)⟩
instance : Cel Try.prog 66 1 := ⟨by kernel_rfl⟩
instance : Siz Try.prog 66 1 := ⟨Try.sizeOf66⟩
instance : Agg Try.prog 66 false := ⟨Try.isAgg66⟩
instance : Zer Try.prog 66 (.nilFunc) := ⟨Try.zeroValue66⟩
instance : Inf Try.prog 66 1 8 (.nilFunc) := ⟨inf_of (by kernel_rfl)⟩
instance : Cel Try.prog 67 1 := ⟨by kernel_rfl⟩
instance : Siz Try.prog 67 1 := ⟨Try.sizeOf67⟩
instance : Agg Try.prog 67 false := ⟨Try.isAgg67⟩
instance : Zer Try.prog 67 (.nilFunc) := ⟨Try.zeroValue67⟩
instance : Inf Try.prog 67 1 8 (.nilFunc) := ⟨inf_of (by kernel_rfl)⟩
instance : Cel Try.prog 68 1 := ⟨by kernel_rfl⟩
instance : Siz Try.prog 68 1 := ⟨Try.sizeOf68⟩
instance : Agg Try.prog 68 false := ⟨Try.isAgg68⟩
instance : Zer Try.prog 68 (.nilFunc) := ⟨Try.zeroValue68⟩
instance : Inf Try.prog 68 1 8 (.nilFunc) := ⟨inf_of (by kernel_rfl)⟩
instance : Cel Try.prog 69 1 := ⟨by kernel_rfl⟩
instance : Siz Try.prog 69 1 := ⟨Try.sizeOf69⟩
instance : Agg Try.prog 69 false := ⟨Try.isAgg69⟩
instance : Zer Try.prog 69 (.nilFunc) := ⟨Try.zeroValue69⟩
instance : Inf Try.prog 69 1 8 (.nilFunc) := ⟨inf_of (by kernel_rfl)⟩
instance : Cel Try.prog 70 1 := ⟨by kernel_rfl⟩
instance : Siz Try.prog 70 1 := ⟨Try.sizeOf70⟩
instance : Agg Try.prog 70 false := ⟨Try.isAgg70⟩
instance : Zer Try.prog 70 (.nilFunc) := ⟨Try.zeroValue70⟩
instance : Inf Try.prog 70 1 8 (.nilFunc) := ⟨inf_of (by kernel_rfl)⟩
instance : Cel Try.prog 71 1 := ⟨by kernel_rfl⟩
instance : Siz Try.prog 71 1 := ⟨Try.sizeOf71⟩
instance : Agg Try.prog 71 false := ⟨Try.isAgg71⟩
instance : Zer Try.prog 71 (.nilFunc) := ⟨Try.zeroValue71⟩
instance : Inf Try.prog 71 1 8 (.nilFunc) := ⟨inf_of (by kernel_rfl)⟩
instance : Und Try.prog 72 (.slice 22) := ⟨Try.underlying72⟩
instance : Cel Try.prog 72 1 := ⟨by kernel_rfl⟩
instance : Siz Try.prog 72 1 := ⟨Try.sizeOf72⟩
instance : Agg Try.prog 72 false := ⟨Try.isAgg72⟩
instance : Zer Try.prog 72 (.slice none 0 0) := ⟨Try.zeroValue72⟩
instance : Inf Try.prog 72 1 24 (.slice none 0 0) := ⟨inf_of (by kernel_rfl)⟩
instance : Cel Try.prog 73 1 := ⟨by kernel_rfl⟩
instance : Siz Try.prog 73 1 := ⟨Try.sizeOf73⟩
instance : Agg Try.prog 73 false := ⟨Try.isAgg73⟩
instance : Zer Try.prog 73 (.nilFunc) := ⟨Try.zeroValue73⟩
instance : Inf Try.prog 73 1 8 (.nilFunc) := ⟨inf_of (by kernel_rfl)⟩
instance : Cel Try.prog 74 1 := ⟨by kernel_rfl⟩
instance : Siz Try.prog 74 1 := ⟨Try.sizeOf74⟩
instance : Agg Try.prog 74 false := ⟨Try.isAgg74⟩
instance : Zer Try.prog 74 (.nilFunc) := ⟨Try.zeroValue74⟩
instance : Inf Try.prog 74 1 8 (.nilFunc) := ⟨inf_of (by kernel_rfl)⟩
instance : Und Try.prog 75 (.slice 2) := ⟨Try.underlying75⟩
instance : Cel Try.prog 75 1 := ⟨by kernel_rfl⟩
instance : Siz Try.prog 75 1 := ⟨Try.sizeOf75⟩
instance : Agg Try.prog 75 false := ⟨Try.isAgg75⟩
instance : Zer Try.prog 75 (.slice none 0 0) := ⟨Try.zeroValue75⟩
instance : Inf Try.prog 75 1 24 (.slice none 0 0) := ⟨inf_of (by kernel_rfl)⟩
instance : Cel Try.prog 76 1 := ⟨by kernel_rfl⟩
instance : Siz Try.prog 76 1 := ⟨Try.sizeOf76⟩
instance : Agg Try.prog 76 false := ⟨Try.isAgg76⟩
instance : Zer Try.prog 76 (.nilFunc) := ⟨Try.zeroValue76⟩
instance : Inf Try.prog 76 1 8 (.nilFunc) := ⟨inf_of (by kernel_rfl)⟩
instance : Cel Try.prog 77 1 := ⟨by kernel_rfl⟩
instance : Siz Try.prog 77 1 := ⟨Try.sizeOf77⟩
instance : Agg Try.prog 77 false := ⟨Try.isAgg77⟩
instance : Zer Try.prog 77 (.nilFunc) := ⟨Try.zeroValue77⟩
instance : Inf Try.prog 77 1 8 (.nilFunc) := ⟨inf_of (by kernel_rfl)⟩
instance : Cel Try.prog 78 1 := ⟨by kernel_rfl⟩
instance : Siz Try.prog 78 1 := ⟨Try.sizeOf78⟩
instance : Agg Try.prog 78 false := ⟨Try.isAgg78⟩
instance : Zer Try.prog 78 (.nilFunc) := ⟨Try.zeroValue78⟩
instance : Inf Try.prog 78 1 8 (.nilFunc) := ⟨inf_of (by kernel_rfl)⟩
instance : Cel Try.prog 79 1 := ⟨by kernel_rfl⟩
instance : Siz Try.prog 79 1 := ⟨Try.sizeOf79⟩
instance : Agg Try.prog 79 false := ⟨Try.isAgg79⟩
instance : Zer Try.prog 79 (.nilFunc) := ⟨Try.zeroValue79⟩
instance : Inf Try.prog 79 1 8 (.nilFunc) := ⟨inf_of (by kernel_rfl)⟩
instance : Cel Try.prog 80 1 := ⟨by kernel_rfl⟩
instance : Siz Try.prog 80 1 := ⟨Try.sizeOf80⟩
instance : Agg Try.prog 80 false := ⟨Try.isAgg80⟩
instance : Zer Try.prog 80 (.nilFunc) := ⟨Try.zeroValue80⟩
instance : Inf Try.prog 80 1 8 (.nilFunc) := ⟨inf_of (by kernel_rfl)⟩
instance : Cel Try.prog 81 1 := ⟨by kernel_rfl⟩
instance : Siz Try.prog 81 1 := ⟨Try.sizeOf81⟩
instance : Agg Try.prog 81 false := ⟨Try.isAgg81⟩
instance : Zer Try.prog 81 (.nilFunc) := ⟨Try.zeroValue81⟩
instance : Inf Try.prog 81 1 8 (.nilFunc) := ⟨inf_of (by kernel_rfl)⟩
instance : Cel Try.prog 82 1 := ⟨by kernel_rfl⟩
instance : Siz Try.prog 82 1 := ⟨Try.sizeOf82⟩
instance : Agg Try.prog 82 false := ⟨Try.isAgg82⟩
instance : Zer Try.prog 82 (.nilFunc) := ⟨Try.zeroValue82⟩
instance : Inf Try.prog 82 1 8 (.nilFunc) := ⟨inf_of (by kernel_rfl)⟩
instance : Cel Try.prog 83 1 := ⟨by kernel_rfl⟩
instance : Siz Try.prog 83 1 := ⟨Try.sizeOf83⟩
instance : Agg Try.prog 83 false := ⟨Try.isAgg83⟩
instance : Zer Try.prog 83 (.nilFunc) := ⟨Try.zeroValue83⟩
instance : Inf Try.prog 83 1 8 (.nilFunc) := ⟨inf_of (by kernel_rfl)⟩
instance : Cel Try.prog 84 1 := ⟨by kernel_rfl⟩
instance : Siz Try.prog 84 1 := ⟨Try.sizeOf84⟩
instance : Agg Try.prog 84 false := ⟨Try.isAgg84⟩
instance : Zer Try.prog 84 (.nilFunc) := ⟨Try.zeroValue84⟩
instance : Inf Try.prog 84 1 8 (.nilFunc) := ⟨inf_of (by kernel_rfl)⟩
instance : Cel Try.prog 85 1 := ⟨by kernel_rfl⟩
instance : Siz Try.prog 85 1 := ⟨Try.sizeOf85⟩
instance : Agg Try.prog 85 false := ⟨Try.isAgg85⟩
instance : Zer Try.prog 85 (.nilFunc) := ⟨Try.zeroValue85⟩
instance : Inf Try.prog 85 1 8 (.nilFunc) := ⟨inf_of (by kernel_rfl)⟩
instance : Cel Try.prog 86 1 := ⟨by kernel_rfl⟩
instance : Siz Try.prog 86 1 := ⟨Try.sizeOf86⟩
instance : Agg Try.prog 86 false := ⟨Try.isAgg86⟩
instance : Zer Try.prog 86 (.nilFunc) := ⟨Try.zeroValue86⟩
instance : Inf Try.prog 86 1 8 (.nilFunc) := ⟨inf_of (by kernel_rfl)⟩
instance : Cel Try.prog 87 1 := ⟨by kernel_rfl⟩
instance : Siz Try.prog 87 1 := ⟨Try.sizeOf87⟩
instance : Agg Try.prog 87 false := ⟨Try.isAgg87⟩
instance : Zer Try.prog 87 (.nilFunc) := ⟨Try.zeroValue87⟩
instance : Inf Try.prog 87 1 8 (.nilFunc) := ⟨inf_of (by kernel_rfl)⟩
instance : Cel Try.prog 88 1 := ⟨by kernel_rfl⟩
instance : Siz Try.prog 88 1 := ⟨Try.sizeOf88⟩
instance : Agg Try.prog 88 false := ⟨Try.isAgg88⟩
instance : Zer Try.prog 88 (.nilFunc) := ⟨Try.zeroValue88⟩
instance : Inf Try.prog 88 1 8 (.nilFunc) := ⟨inf_of (by kernel_rfl)⟩
instance : Cel Try.prog 89 1 := ⟨by kernel_rfl⟩
instance : Siz Try.prog 89 1 := ⟨Try.sizeOf89⟩
instance : Agg Try.prog 89 false := ⟨Try.isAgg89⟩
instance : Zer Try.prog 89 (.nilFunc) := ⟨Try.zeroValue89⟩
instance : Inf Try.prog 89 1 8 (.nilFunc) := ⟨inf_of (by kernel_rfl)⟩
instance : Cel Try.prog 90 1 := ⟨by kernel_rfl⟩
instance : Siz Try.prog 90 1 := ⟨Try.sizeOf90⟩
instance : Agg Try.prog 90 false := ⟨Try.isAgg90⟩
instance : Zer Try.prog 90 (.nilFunc) := ⟨Try.zeroValue90⟩
instance : Inf Try.prog 90 1 8 (.nilFunc) := ⟨inf_of (by kernel_rfl)⟩
instance : Und Try.prog 91 (.int .u64) := ⟨Try.underlying91⟩
instance : Cel Try.prog 91 1 := ⟨by kernel_rfl⟩
instance : Siz Try.prog 91 1 := ⟨Try.sizeOf91⟩
instance : Agg Try.prog 91 false := ⟨Try.isAgg91⟩
instance : Zer Try.prog 91 (.int .u64 0) := ⟨Try.zeroValue91⟩
instance : Inf Try.prog 91 1 8 (.int .u64 0) := ⟨inf_of (by kernel_rfl)⟩
instance : Cel Try.prog 92 1 := ⟨by kernel_rfl⟩
instance : Siz Try.prog 92 1 := ⟨Try.sizeOf92⟩
instance : Agg Try.prog 92 false := ⟨Try.isAgg92⟩
instance : Zer Try.prog 92 (.nilFunc) := ⟨Try.zeroValue92⟩
instance : Inf Try.prog 92 1 8 (.nilFunc) := ⟨inf_of (by kernel_rfl)⟩
instance : Cel Try.prog 93 1 := ⟨by kernel_rfl⟩
instance : Siz Try.prog 93 1 := ⟨Try.sizeOf93⟩
instance : Agg Try.prog 93 false := ⟨Try.isAgg93⟩
instance : Zer Try.prog 93 (.nilFunc) := ⟨Try.zeroValue93⟩
instance : Inf Try.prog 93 1 8 (.nilFunc) := ⟨inf_of (by kernel_rfl)⟩
instance : Cel Try.prog 94 1 := ⟨by kernel_rfl⟩
instance : Siz Try.prog 94 1 := ⟨Try.sizeOf94⟩
instance : Agg Try.prog 94 false := ⟨Try.isAgg94⟩
instance : Zer Try.prog 94 (.nilFunc) := ⟨Try.zeroValue94⟩
instance : Inf Try.prog 94 1 8 (.nilFunc) := ⟨inf_of (by kernel_rfl)⟩
instance : Cel Try.prog 95 1 := ⟨by kernel_rfl⟩
instance : Siz Try.prog 95 1 := ⟨Try.sizeOf95⟩
instance : Agg Try.prog 95 false := ⟨Try.isAgg95⟩
instance : Zer Try.prog 95 (.nilFunc) := ⟨Try.zeroValue95⟩
instance : Inf Try.prog 95 1 8 (.nilFunc) := ⟨inf_of (by kernel_rfl)⟩
instance : Und Try.prog 96 (.slice 102) := ⟨Try.underlying96⟩
instance : Cel Try.prog 96 1 := ⟨by kernel_rfl⟩
instance : Siz Try.prog 96 1 := ⟨Try.sizeOf96⟩
instance : Agg Try.prog 96 false := ⟨Try.isAgg96⟩
instance : Zer Try.prog 96 (.slice none 0 0) := ⟨Try.zeroValue96⟩
instance : Inf Try.prog 96 1 24 (.slice none 0 0) := ⟨inf_of (by kernel_rfl)⟩
instance : Cel Try.prog 97 1 := ⟨by kernel_rfl⟩
instance : Siz Try.prog 97 1 := ⟨Try.sizeOf97⟩
instance : Agg Try.prog 97 false := ⟨Try.isAgg97⟩
instance : Zer Try.prog 97 (.nilFunc) := ⟨Try.zeroValue97⟩
instance : Inf Try.prog 97 1 8 (.nilFunc) := ⟨inf_of (by kernel_rfl)⟩
instance : Cel Try.prog 98 1 := ⟨by kernel_rfl⟩
instance : Siz Try.prog 98 1 := ⟨Try.sizeOf98⟩
instance : Agg Try.prog 98 false := ⟨Try.isAgg98⟩
instance : Zer Try.prog 98 (.nilFunc) := ⟨Try.zeroValue98⟩
instance : Inf Try.prog 98 1 8 (.nilFunc) := ⟨inf_of (by kernel_rfl)⟩
instance : Cel Try.prog 99 1 := ⟨by kernel_rfl⟩
instance : Siz Try.prog 99 1 := ⟨Try.sizeOf99⟩
instance : Agg Try.prog 99 false := ⟨Try.isAgg99⟩
instance : Zer Try.prog 99 (.nilFunc) := ⟨Try.zeroValue99⟩
instance : Inf Try.prog 99 1 8 (.nilFunc) := ⟨inf_of (by kernel_rfl)⟩
instance : Cel Try.prog 100 1 := ⟨by kernel_rfl⟩
instance : Siz Try.prog 100 1 := ⟨Try.sizeOf100⟩
instance : Agg Try.prog 100 false := ⟨Try.isAgg100⟩
instance : Zer Try.prog 100 (.nilFunc) := ⟨Try.zeroValue100⟩
instance : Inf Try.prog 100 1 8 (.nilFunc) := ⟨inf_of (by kernel_rfl)⟩
instance : Cel Try.prog 101 5 := ⟨by kernel_rfl⟩
instance : Siz Try.prog 101 5 := ⟨Try.sizeOf101⟩
instance : Agg Try.prog 101 true := ⟨Try.isAgg101⟩
instance : Zer Try.prog 101 (.agg #[.bool false, .int .i64 0, .int .i64 0, .int .i64 0, .string ⟨#[]⟩]) := ⟨Try.zeroValue101⟩
instance : Inf Try.prog 101 5 48 (.agg #[.bool false, .int .i64 0, .int .i64 0, .int .i64 0, .string ⟨#[]⟩]) := ⟨inf_of (by kernel_rfl)⟩
instance : Plc Try.prog 101 [(0, 1), (1, 1), (2, 3)] := ⟨⟨_, Try.runUnderlying101, fun w => by simp [Try.sizeOf2, Try.sizeOf39, Try.sizeOf4]⟩⟩
instance : Fld Try.prog 101 0 0 := ⟨fun w a => by simp [Instr.fieldAt, Instr.sureAddr, fieldPlace, Try.runUnderlying101, Try.sizeOf4]⟩
instance : Fld Try.prog 101 1 1 := ⟨fun w a => by simp [Instr.fieldAt, Instr.sureAddr, fieldPlace, Try.runUnderlying101, Try.sizeOf2]⟩
instance : Fld Try.prog 101 2 2 := ⟨fun w a => by simp [Instr.fieldAt, Instr.sureAddr, fieldPlace, Try.runUnderlying101, Try.sizeOf39]⟩
instance : Cel Try.prog 102 5 := ⟨by kernel_rfl⟩
instance : Siz Try.prog 102 5 := ⟨Try.sizeOf102⟩
instance : Agg Try.prog 102 true := ⟨Try.isAgg102⟩
instance : Zer Try.prog 102 (.agg #[.bool false, .int .i64 0, .int .i64 0, .int .i64 0, .string ⟨#[]⟩]) := ⟨Try.zeroValue102⟩
instance : Inf Try.prog 102 5 48 (.agg #[.bool false, .int .i64 0, .int .i64 0, .int .i64 0, .string ⟨#[]⟩]) := ⟨inf_of (by kernel_rfl)⟩
instance : Plc Try.prog 102 [(0, 1), (1, 1), (2, 3)] := ⟨⟨_, Try.runUnderlying102, fun w => by simp [Try.sizeOf2, Try.sizeOf39, Try.sizeOf4]⟩⟩
instance : Fld Try.prog 102 0 0 := ⟨fun w a => by simp [Instr.fieldAt, Instr.sureAddr, fieldPlace, Try.runUnderlying102, Try.sizeOf4]⟩
instance : Fld Try.prog 102 1 1 := ⟨fun w a => by simp [Instr.fieldAt, Instr.sureAddr, fieldPlace, Try.runUnderlying102, Try.sizeOf2]⟩
instance : Fld Try.prog 102 2 2 := ⟨fun w a => by simp [Instr.fieldAt, Instr.sureAddr, fieldPlace, Try.runUnderlying102, Try.sizeOf39]⟩
instance : Cel Try.prog 103 1 := ⟨by kernel_rfl⟩
instance : Siz Try.prog 103 1 := ⟨Try.sizeOf103⟩
instance : Agg Try.prog 103 false := ⟨Try.isAgg103⟩
instance : Zer Try.prog 103 (.nilFunc) := ⟨Try.zeroValue103⟩
instance : Inf Try.prog 103 1 8 (.nilFunc) := ⟨inf_of (by kernel_rfl)⟩
instance : Cel Try.prog 104 1 := ⟨by kernel_rfl⟩
instance : Siz Try.prog 104 1 := ⟨Try.sizeOf104⟩
instance : Agg Try.prog 104 false := ⟨Try.isAgg104⟩
instance : Zer Try.prog 104 (.nilFunc) := ⟨Try.zeroValue104⟩
instance : Inf Try.prog 104 1 8 (.nilFunc) := ⟨inf_of (by kernel_rfl)⟩
instance : Und Try.prog 105 (.int .i64) := ⟨Try.underlying105⟩
instance : Cel Try.prog 105 1 := ⟨by kernel_rfl⟩
instance : Siz Try.prog 105 1 := ⟨Try.sizeOf105⟩
instance : Agg Try.prog 105 false := ⟨Try.isAgg105⟩
instance : Zer Try.prog 105 (.int .i64 0) := ⟨Try.zeroValue105⟩
instance : Inf Try.prog 105 1 8 (.int .i64 0) := ⟨inf_of (by kernel_rfl)⟩
instance : Cel Try.prog 106 1 := ⟨by kernel_rfl⟩
instance : Siz Try.prog 106 1 := ⟨Try.sizeOf106⟩
instance : Cel Try.prog 107 1 := ⟨by kernel_rfl⟩
instance : Siz Try.prog 107 1 := ⟨Try.sizeOf107⟩
instance : Agg Try.prog 107 false := ⟨Try.isAgg107⟩
instance : Zer Try.prog 107 (.nilFunc) := ⟨Try.zeroValue107⟩
instance : Inf Try.prog 107 1 8 (.nilFunc) := ⟨inf_of (by kernel_rfl)⟩
instance : Cel Try.prog 108 1 := ⟨by kernel_rfl⟩
instance : Siz Try.prog 108 1 := ⟨Try.sizeOf108⟩
instance : Agg Try.prog 108 false := ⟨Try.isAgg108⟩
instance : Zer Try.prog 108 (.nilFunc) := ⟨Try.zeroValue108⟩
instance : Inf Try.prog 108 1 8 (.nilFunc) := ⟨inf_of (by kernel_rfl)⟩
instance : Cel Try.prog 109 1 := ⟨by kernel_rfl⟩
instance : Siz Try.prog 109 1 := ⟨Try.sizeOf109⟩
instance : Agg Try.prog 109 false := ⟨Try.isAgg109⟩
instance : Zer Try.prog 109 (.nilFunc) := ⟨Try.zeroValue109⟩
instance : Inf Try.prog 109 1 8 (.nilFunc) := ⟨inf_of (by kernel_rfl)⟩
instance : Cel Try.prog 110 1 := ⟨by kernel_rfl⟩
instance : Siz Try.prog 110 1 := ⟨Try.sizeOf110⟩
instance : Cel Try.prog 111 1 := ⟨by kernel_rfl⟩
instance : Siz Try.prog 111 1 := ⟨Try.sizeOf111⟩
instance : Agg Try.prog 111 false := ⟨Try.isAgg111⟩
instance : Zer Try.prog 111 (.nilFunc) := ⟨Try.zeroValue111⟩
instance : Inf Try.prog 111 1 8 (.nilFunc) := ⟨inf_of (by kernel_rfl)⟩
instance : Cel Try.prog 112 1 := ⟨by kernel_rfl⟩
instance : Siz Try.prog 112 1 := ⟨Try.sizeOf112⟩
instance : Agg Try.prog 112 false := ⟨Try.isAgg112⟩
instance : Zer Try.prog 112 (.nilFunc) := ⟨Try.zeroValue112⟩
instance : Inf Try.prog 112 1 8 (.nilFunc) := ⟨inf_of (by kernel_rfl)⟩
instance : Und Try.prog 113 (.int .u32) := ⟨Try.underlying113⟩
instance : Cel Try.prog 113 1 := ⟨by kernel_rfl⟩
instance : Siz Try.prog 113 1 := ⟨Try.sizeOf113⟩
instance : Agg Try.prog 113 false := ⟨Try.isAgg113⟩
instance : Zer Try.prog 113 (.int .u32 0) := ⟨Try.zeroValue113⟩
instance : Inf Try.prog 113 1 4 (.int .u32 0) := ⟨inf_of (by kernel_rfl)⟩
instance : Cel Try.prog 114 1 := ⟨by kernel_rfl⟩
instance : Siz Try.prog 114 1 := ⟨Try.sizeOf114⟩
instance : Agg Try.prog 114 false := ⟨Try.isAgg114⟩
instance : Zer Try.prog 114 (.nilFunc) := ⟨Try.zeroValue114⟩
instance : Inf Try.prog 114 1 8 (.nilFunc) := ⟨inf_of (by kernel_rfl)⟩
instance : Und Try.prog 115 (.int .u64) := ⟨Try.underlying115⟩
instance : Cel Try.prog 115 1 := ⟨by kernel_rfl⟩
instance : Siz Try.prog 115 1 := ⟨Try.sizeOf115⟩
instance : Agg Try.prog 115 false := ⟨Try.isAgg115⟩
instance : Zer Try.prog 115 (.int .u64 0) := ⟨Try.zeroValue115⟩
instance : Inf Try.prog 115 1 8 (.int .u64 0) := ⟨inf_of (by kernel_rfl)⟩
instance : Cel Try.prog 116 1 := ⟨by kernel_rfl⟩
instance : Siz Try.prog 116 1 := ⟨Try.sizeOf116⟩
instance : Agg Try.prog 116 false := ⟨Try.isAgg116⟩
instance : Zer Try.prog 116 (.nilFunc) := ⟨Try.zeroValue116⟩
instance : Inf Try.prog 116 1 8 (.nilFunc) := ⟨inf_of (by kernel_rfl)⟩
instance : Cel Try.prog 117 1 := ⟨by kernel_rfl⟩
instance : Siz Try.prog 117 1 := ⟨Try.sizeOf117⟩
instance : Agg Try.prog 117 false := ⟨Try.isAgg117⟩
instance : Zer Try.prog 117 (.nilFunc) := ⟨Try.zeroValue117⟩
instance : Inf Try.prog 117 1 8 (.nilFunc) := ⟨inf_of (by kernel_rfl)⟩
instance : Cel Try.prog 118 1 := ⟨by kernel_rfl⟩
instance : Siz Try.prog 118 1 := ⟨Try.sizeOf118⟩
instance : Agg Try.prog 118 false := ⟨Try.isAgg118⟩
instance : Zer Try.prog 118 (.nilFunc) := ⟨Try.zeroValue118⟩
instance : Inf Try.prog 118 1 8 (.nilFunc) := ⟨inf_of (by kernel_rfl)⟩
instance : Cel Try.prog 119 1 := ⟨by kernel_rfl⟩
instance : Siz Try.prog 119 1 := ⟨Try.sizeOf119⟩
instance : Agg Try.prog 119 false := ⟨Try.isAgg119⟩
instance : Zer Try.prog 119 (.nilFunc) := ⟨Try.zeroValue119⟩
instance : Inf Try.prog 119 1 8 (.nilFunc) := ⟨inf_of (by kernel_rfl)⟩
instance : Cel Try.prog 120 1 := ⟨by kernel_rfl⟩
instance : Siz Try.prog 120 1 := ⟨Try.sizeOf120⟩
instance : Agg Try.prog 120 false := ⟨Try.isAgg120⟩
instance : Zer Try.prog 120 (.nilFunc) := ⟨Try.zeroValue120⟩
instance : Inf Try.prog 120 1 8 (.nilFunc) := ⟨inf_of (by kernel_rfl)⟩
instance : Cel Try.prog 121 1 := ⟨by kernel_rfl⟩
instance : Siz Try.prog 121 1 := ⟨Try.sizeOf121⟩
instance : Agg Try.prog 121 false := ⟨Try.isAgg121⟩
instance : Zer Try.prog 121 (.nilFunc) := ⟨Try.zeroValue121⟩
instance : Inf Try.prog 121 1 8 (.nilFunc) := ⟨inf_of (by kernel_rfl)⟩
instance : Cel Try.prog 122 1 := ⟨by kernel_rfl⟩
instance : Siz Try.prog 122 1 := ⟨Try.sizeOf122⟩
instance : Agg Try.prog 122 false := ⟨Try.isAgg122⟩
instance : Zer Try.prog 122 (.nilFunc) := ⟨Try.zeroValue122⟩
instance : Inf Try.prog 122 1 8 (.nilFunc) := ⟨inf_of (by kernel_rfl)⟩
instance : Und Try.prog 123 (.array 3 102) := ⟨Try.underlying123⟩
instance : Cel Try.prog 123 15 := ⟨by kernel_rfl⟩
instance : Siz Try.prog 123 15 := ⟨Try.sizeOf123⟩
instance : Agg Try.prog 123 true := ⟨Try.isAgg123⟩
instance : Zer Try.prog 123 (.agg #[.bool false, .int .i64 0, .int .i64 0, .int .i64 0, .string ⟨#[]⟩, .bool false, .int .i64 0, .int .i64 0, .int .i64 0, .string ⟨#[]⟩, .bool false, .int .i64 0, .int .i64 0, .int .i64 0, .string ⟨#[]⟩]) := ⟨Try.zeroValue123⟩
instance : Inf Try.prog 123 15 144 (.agg #[.bool false, .int .i64 0, .int .i64 0, .int .i64 0, .string ⟨#[]⟩, .bool false, .int .i64 0, .int .i64 0, .int .i64 0, .string ⟨#[]⟩, .bool false, .int .i64 0, .int .i64 0, .int .i64 0, .string ⟨#[]⟩]) := ⟨inf_of (by kernel_rfl)⟩
instance : Cel Try.prog 124 1 := ⟨by kernel_rfl⟩
instance : Siz Try.prog 124 1 := ⟨Try.sizeOf124⟩
instance : Agg Try.prog 124 false := ⟨Try.isAgg124⟩
instance : Zer Try.prog 124 (.nilFunc) := ⟨Try.zeroValue124⟩
instance : Inf Try.prog 124 1 8 (.nilFunc) := ⟨inf_of (by kernel_rfl)⟩
instance : Cel Try.prog 125 1 := ⟨by kernel_rfl⟩
instance : Siz Try.prog 125 1 := ⟨Try.sizeOf125⟩
instance : Agg Try.prog 125 false := ⟨Try.isAgg125⟩
instance : Zer Try.prog 125 (.nilFunc) := ⟨Try.zeroValue125⟩
instance : Inf Try.prog 125 1 8 (.nilFunc) := ⟨inf_of (by kernel_rfl)⟩
instance : Cel Try.prog 126 1 := ⟨by kernel_rfl⟩
instance : Siz Try.prog 126 1 := ⟨Try.sizeOf126⟩
instance : Agg Try.prog 126 false := ⟨Try.isAgg126⟩
instance : Zer Try.prog 126 (.nilFunc) := ⟨Try.zeroValue126⟩
instance : Inf Try.prog 126 1 8 (.nilFunc) := ⟨inf_of (by kernel_rfl)⟩
instance : Cel Try.prog 127 1 := ⟨by kernel_rfl⟩
instance : Siz Try.prog 127 1 := ⟨Try.sizeOf127⟩
instance : Agg Try.prog 127 false := ⟨Try.isAgg127⟩
instance : Zer Try.prog 127 (.nilFunc) := ⟨Try.zeroValue127⟩
instance : Inf Try.prog 127 1 8 (.nilFunc) := ⟨inf_of (by kernel_rfl)⟩
instance : Und Try.prog 128 (.int .u64) := ⟨Try.underlying128⟩
instance : Cel Try.prog 128 1 := ⟨by kernel_rfl⟩
instance : Siz Try.prog 128 1 := ⟨Try.sizeOf128⟩
instance : Agg Try.prog 128 false := ⟨Try.isAgg128⟩
instance : Zer Try.prog 128 (.int .u64 0) := ⟨Try.zeroValue128⟩
instance : Inf Try.prog 128 1 8 (.int .u64 0) := ⟨inf_of (by kernel_rfl)⟩
instance : Cel Try.prog 129 1 := ⟨by kernel_rfl⟩
instance : Siz Try.prog 129 1 := ⟨Try.sizeOf129⟩
instance : Agg Try.prog 129 false := ⟨Try.isAgg129⟩
instance : Zer Try.prog 129 (.nilFunc) := ⟨Try.zeroValue129⟩
instance : Inf Try.prog 129 1 8 (.nilFunc) := ⟨inf_of (by kernel_rfl)⟩
instance : Cel Try.prog 130 1 := ⟨by kernel_rfl⟩
instance : Siz Try.prog 130 1 := ⟨Try.sizeOf130⟩
instance : Agg Try.prog 130 false := ⟨Try.isAgg130⟩
instance : Zer Try.prog 130 (.nilFunc) := ⟨Try.zeroValue130⟩
instance : Inf Try.prog 130 1 8 (.nilFunc) := ⟨inf_of (by kernel_rfl)⟩
instance : Cel Try.prog 131 1 := ⟨by kernel_rfl⟩
instance : Siz Try.prog 131 1 := ⟨Try.sizeOf131⟩
instance : Agg Try.prog 131 false := ⟨Try.isAgg131⟩
instance : Zer Try.prog 131 (.nilFunc) := ⟨Try.zeroValue131⟩
instance : Inf Try.prog 131 1 8 (.nilFunc) := ⟨inf_of (by kernel_rfl)⟩
instance : Und Try.prog 132 (.pointer 3) := ⟨Try.underlying132⟩
instance : Cel Try.prog 132 1 := ⟨by kernel_rfl⟩
instance : Siz Try.prog 132 1 := ⟨Try.sizeOf132⟩
instance : Agg Try.prog 132 false := ⟨Try.isAgg132⟩
instance : Zer Try.prog 132 (.pointer none) := ⟨Try.zeroValue132⟩
instance : Inf Try.prog 132 1 8 (.pointer none) := ⟨inf_of (by kernel_rfl)⟩
instance : Cel Try.prog 133 1 := ⟨by kernel_rfl⟩
instance : Siz Try.prog 133 1 := ⟨Try.sizeOf133⟩
instance : Agg Try.prog 133 false := ⟨Try.isAgg133⟩
instance : Zer Try.prog 133 (.nilFunc) := ⟨Try.zeroValue133⟩
instance : Inf Try.prog 133 1 8 (.nilFunc) := ⟨inf_of (by kernel_rfl)⟩
instance : Cel Try.prog 134 1 := ⟨by kernel_rfl⟩
instance : Siz Try.prog 134 1 := ⟨Try.sizeOf134⟩
instance : Agg Try.prog 134 false := ⟨Try.isAgg134⟩
instance : Zer Try.prog 134 (.nilFunc) := ⟨Try.zeroValue134⟩
instance : Inf Try.prog 134 1 8 (.nilFunc) := ⟨inf_of (by kernel_rfl)⟩
instance : Cel Try.prog 135 1 := ⟨by kernel_rfl⟩
instance : Siz Try.prog 135 1 := ⟨Try.sizeOf135⟩
instance : Agg Try.prog 135 false := ⟨Try.isAgg135⟩
instance : Zer Try.prog 135 (.nilFunc) := ⟨Try.zeroValue135⟩
instance : Inf Try.prog 135 1 8 (.nilFunc) := ⟨inf_of (by kernel_rfl)⟩
instance : Cel Try.prog 136 1 := ⟨by kernel_rfl⟩
instance : Siz Try.prog 136 1 := ⟨Try.sizeOf136⟩
instance : Agg Try.prog 136 false := ⟨Try.isAgg136⟩
instance : Zer Try.prog 136 (.nilFunc) := ⟨Try.zeroValue136⟩
instance : Inf Try.prog 136 1 8 (.nilFunc) := ⟨inf_of (by kernel_rfl)⟩
instance : Cel Try.prog 137 1 := ⟨by kernel_rfl⟩
instance : Siz Try.prog 137 1 := ⟨Try.sizeOf137⟩
instance : Agg Try.prog 137 false := ⟨Try.isAgg137⟩
instance : Zer Try.prog 137 (.nilFunc) := ⟨Try.zeroValue137⟩
instance : Inf Try.prog 137 1 8 (.nilFunc) := ⟨inf_of (by kernel_rfl)⟩
instance : Cel Try.prog 138 1 := ⟨by kernel_rfl⟩
instance : Siz Try.prog 138 1 := ⟨Try.sizeOf138⟩
instance : Agg Try.prog 138 false := ⟨Try.isAgg138⟩
instance : Zer Try.prog 138 (.nilFunc) := ⟨Try.zeroValue138⟩
instance : Inf Try.prog 138 1 8 (.nilFunc) := ⟨inf_of (by kernel_rfl)⟩
instance : Cel Try.prog 139 1 := ⟨by kernel_rfl⟩
instance : Siz Try.prog 139 1 := ⟨Try.sizeOf139⟩
instance : Agg Try.prog 139 false := ⟨Try.isAgg139⟩
instance : Zer Try.prog 139 (.nilFunc) := ⟨Try.zeroValue139⟩
instance : Inf Try.prog 139 1 8 (.nilFunc) := ⟨inf_of (by kernel_rfl)⟩
instance : Cel Try.prog 140 1 := ⟨by kernel_rfl⟩
instance : Siz Try.prog 140 1 := ⟨Try.sizeOf140⟩
instance : Agg Try.prog 140 false := ⟨Try.isAgg140⟩
instance : Zer Try.prog 140 (.nilFunc) := ⟨Try.zeroValue140⟩
instance : Inf Try.prog 140 1 8 (.nilFunc) := ⟨inf_of (by kernel_rfl)⟩
instance : Und Try.prog 141 (.pointer 128) := ⟨Try.underlying141⟩
instance : Cel Try.prog 141 1 := ⟨by kernel_rfl⟩
instance : Siz Try.prog 141 1 := ⟨Try.sizeOf141⟩
instance : Agg Try.prog 141 false := ⟨Try.isAgg141⟩
instance : Zer Try.prog 141 (.pointer none) := ⟨Try.zeroValue141⟩
instance : Inf Try.prog 141 1 8 (.pointer none) := ⟨inf_of (by kernel_rfl)⟩
instance : Cel Try.prog 142 1 := ⟨by kernel_rfl⟩
instance : Siz Try.prog 142 1 := ⟨Try.sizeOf142⟩
instance : Cel Try.prog 143 1 := ⟨by kernel_rfl⟩
instance : Siz Try.prog 143 1 := ⟨Try.sizeOf143⟩
instance : Agg Try.prog 143 false := ⟨Try.isAgg143⟩
instance : Zer Try.prog 143 (.nilFunc) := ⟨Try.zeroValue143⟩
instance : Inf Try.prog 143 1 8 (.nilFunc) := ⟨inf_of (by kernel_rfl)⟩
instance : Und Try.prog 144 (.slice 5) := ⟨Try.underlying144⟩
instance : Cel Try.prog 144 1 := ⟨by kernel_rfl⟩
instance : Siz Try.prog 144 1 := ⟨Try.sizeOf144⟩
instance : Agg Try.prog 144 false := ⟨Try.isAgg144⟩
instance : Zer Try.prog 144 (.slice none 0 0) := ⟨Try.zeroValue144⟩
instance : Inf Try.prog 144 1 24 (.slice none 0 0) := ⟨inf_of (by kernel_rfl)⟩
instance : Cel Try.prog 145 1 := ⟨by kernel_rfl⟩
instance : Siz Try.prog 145 1 := ⟨Try.sizeOf145⟩
instance : Agg Try.prog 145 false := ⟨Try.isAgg145⟩
instance : Zer Try.prog 145 (.nilFunc) := ⟨Try.zeroValue145⟩
instance : Inf Try.prog 145 1 8 (.nilFunc) := ⟨inf_of (by kernel_rfl)⟩
instance : Und Try.prog 146 (.slice 3) := ⟨Try.underlying146⟩
instance : Cel Try.prog 146 1 := ⟨by kernel_rfl⟩
instance : Siz Try.prog 146 1 := ⟨Try.sizeOf146⟩
instance : Agg Try.prog 146 false := ⟨Try.isAgg146⟩
instance : Zer Try.prog 146 (.slice none 0 0) := ⟨Try.zeroValue146⟩
instance : Inf Try.prog 146 1 24 (.slice none 0 0) := ⟨inf_of (by kernel_rfl)⟩
instance : Cel Try.prog 147 1 := ⟨by kernel_rfl⟩
instance : Siz Try.prog 147 1 := ⟨Try.sizeOf147⟩
instance : Agg Try.prog 147 false := ⟨Try.isAgg147⟩
instance : Zer Try.prog 147 (.nilFunc) := ⟨Try.zeroValue147⟩
instance : Inf Try.prog 147 1 8 (.nilFunc) := ⟨inf_of (by kernel_rfl)⟩
instance : Cel Try.prog 148 4 := ⟨by kernel_rfl⟩
instance : Siz Try.prog 148 4 := ⟨Try.sizeOf148⟩
instance : Agg Try.prog 148 true := ⟨Try.isAgg148⟩
instance : Zer Try.prog 148 (.agg #[.pointer none, .pointer none, .pointer none, .string ⟨#[]⟩]) := ⟨Try.zeroValue148⟩
instance : Inf Try.prog 148 4 40 (.agg #[.pointer none, .pointer none, .pointer none, .string ⟨#[]⟩]) := ⟨inf_of (by kernel_rfl)⟩
instance : Plc Try.prog 148 [(0, 1), (1, 1), (2, 1), (3, 1)] := ⟨⟨_, Try.runUnderlying148, fun w => by simp [Try.sizeOf17, Try.sizeOf9]⟩⟩
instance : Fld Try.prog 148 0 0 := ⟨fun w a => by simp [Instr.fieldAt, Instr.sureAddr, fieldPlace, Try.runUnderlying148, Try.sizeOf17]⟩
instance : Fld Try.prog 148 1 1 := ⟨fun w a => by simp [Instr.fieldAt, Instr.sureAddr, fieldPlace, Try.runUnderlying148, Try.sizeOf17]⟩
instance : Fld Try.prog 148 2 2 := ⟨fun w a => by simp [Instr.fieldAt, Instr.sureAddr, fieldPlace, Try.runUnderlying148, Try.sizeOf17]⟩
instance : Fld Try.prog 148 3 3 := ⟨fun w a => by simp [Instr.fieldAt, Instr.sureAddr, fieldPlace, Try.runUnderlying148, Try.sizeOf9]⟩
instance : Cel Try.prog 149 4 := ⟨by kernel_rfl⟩
instance : Siz Try.prog 149 4 := ⟨Try.sizeOf149⟩
instance : Agg Try.prog 149 true := ⟨Try.isAgg149⟩
instance : Zer Try.prog 149 (.agg #[.pointer none, .pointer none, .pointer none, .string ⟨#[]⟩]) := ⟨Try.zeroValue149⟩
instance : Inf Try.prog 149 4 40 (.agg #[.pointer none, .pointer none, .pointer none, .string ⟨#[]⟩]) := ⟨inf_of (by kernel_rfl)⟩
instance : Plc Try.prog 149 [(0, 1), (1, 1), (2, 1), (3, 1)] := ⟨⟨_, Try.runUnderlying149, fun w => by simp [Try.sizeOf17, Try.sizeOf9]⟩⟩
instance : Fld Try.prog 149 0 0 := ⟨fun w a => by simp [Instr.fieldAt, Instr.sureAddr, fieldPlace, Try.runUnderlying149, Try.sizeOf17]⟩
instance : Fld Try.prog 149 1 1 := ⟨fun w a => by simp [Instr.fieldAt, Instr.sureAddr, fieldPlace, Try.runUnderlying149, Try.sizeOf17]⟩
instance : Fld Try.prog 149 2 2 := ⟨fun w a => by simp [Instr.fieldAt, Instr.sureAddr, fieldPlace, Try.runUnderlying149, Try.sizeOf17]⟩
instance : Fld Try.prog 149 3 3 := ⟨fun w a => by simp [Instr.fieldAt, Instr.sureAddr, fieldPlace, Try.runUnderlying149, Try.sizeOf9]⟩
instance : Und Try.prog 150 (.array 0 16) := ⟨Try.underlying150⟩
instance : Cel Try.prog 150 0 := ⟨by kernel_rfl⟩
instance : Siz Try.prog 150 0 := ⟨Try.sizeOf150⟩
instance : Agg Try.prog 150 true := ⟨Try.isAgg150⟩
instance : Zer Try.prog 150 (.agg #[]) := ⟨Try.zeroValue150⟩
instance : Inf Try.prog 150 0 0 (.agg #[]) := ⟨inf_of (by kernel_rfl)⟩
instance : Cel Try.prog 151 0 := ⟨by kernel_rfl⟩
instance : Siz Try.prog 151 0 := ⟨Try.sizeOf151⟩
instance : Agg Try.prog 151 true := ⟨Try.isAgg151⟩
instance : Zer Try.prog 151 (.agg #[]) := ⟨Try.zeroValue151⟩
instance : Inf Try.prog 151 0 0 (.agg #[]) := ⟨inf_of (by kernel_rfl)⟩
instance : Plc Try.prog 151 [(0, 0)] := ⟨⟨_, Try.runUnderlying151, fun w => by simp [Try.sizeOf150]⟩⟩
instance : Cel Try.prog 152 0 := ⟨by kernel_rfl⟩
instance : Siz Try.prog 152 0 := ⟨Try.sizeOf152⟩
instance : Agg Try.prog 152 true := ⟨Try.isAgg152⟩
instance : Zer Try.prog 152 (.agg #[]) := ⟨Try.zeroValue152⟩
instance : Inf Try.prog 152 0 0 (.agg #[]) := ⟨inf_of (by kernel_rfl)⟩
instance : Plc Try.prog 152 [(0, 0)] := ⟨⟨_, Try.runUnderlying152, fun w => by simp [Try.sizeOf150]⟩⟩
instance : Cel Try.prog 153 1 := ⟨by kernel_rfl⟩
instance : Siz Try.prog 153 1 := ⟨Try.sizeOf153⟩
instance : Agg Try.prog 153 false := ⟨Try.isAgg153⟩
instance : Zer Try.prog 153 (.nilFunc) := ⟨Try.zeroValue153⟩
instance : Inf Try.prog 153 1 8 (.nilFunc) := ⟨inf_of (by kernel_rfl)⟩
instance : Und Try.prog 154 (.int .u8) := ⟨Try.underlying154⟩
instance : Cel Try.prog 154 1 := ⟨by kernel_rfl⟩
instance : Siz Try.prog 154 1 := ⟨Try.sizeOf154⟩
instance : Agg Try.prog 154 false := ⟨Try.isAgg154⟩
instance : Zer Try.prog 154 (.int .u8 0) := ⟨Try.zeroValue154⟩
instance : Inf Try.prog 154 1 1 (.int .u8 0) := ⟨inf_of (by kernel_rfl)⟩
instance : Und Try.prog 155 (.int .u8) := ⟨Try.underlying155⟩
instance : Cel Try.prog 155 1 := ⟨by kernel_rfl⟩
instance : Siz Try.prog 155 1 := ⟨Try.sizeOf155⟩
instance : Agg Try.prog 155 false := ⟨Try.isAgg155⟩
instance : Zer Try.prog 155 (.int .u8 0) := ⟨Try.zeroValue155⟩
instance : Inf Try.prog 155 1 1 (.int .u8 0) := ⟨inf_of (by kernel_rfl)⟩
instance : Cel Try.prog 156 1 := ⟨by kernel_rfl⟩
instance : Siz Try.prog 156 1 := ⟨Try.sizeOf156⟩
instance : Agg Try.prog 156 false := ⟨Try.isAgg156⟩
instance : Zer Try.prog 156 (.nilFunc) := ⟨Try.zeroValue156⟩
instance : Inf Try.prog 156 1 8 (.nilFunc) := ⟨inf_of (by kernel_rfl)⟩
instance : Und Try.prog 157 (.pointer 5) := ⟨Try.underlying157⟩
instance : Cel Try.prog 157 1 := ⟨by kernel_rfl⟩
instance : Siz Try.prog 157 1 := ⟨Try.sizeOf157⟩
instance : Agg Try.prog 157 false := ⟨Try.isAgg157⟩
instance : Zer Try.prog 157 (.pointer none) := ⟨Try.zeroValue157⟩
instance : Inf Try.prog 157 1 8 (.pointer none) := ⟨inf_of (by kernel_rfl)⟩
instance : Und Try.prog 158 (.int .i32) := ⟨Try.underlying158⟩
instance : Cel Try.prog 158 1 := ⟨by kernel_rfl⟩
instance : Siz Try.prog 158 1 := ⟨Try.sizeOf158⟩
instance : Agg Try.prog 158 false := ⟨Try.isAgg158⟩
instance : Zer Try.prog 158 (.int .i32 0) := ⟨Try.zeroValue158⟩
instance : Inf Try.prog 158 1 4 (.int .i32 0) := ⟨inf_of (by kernel_rfl)⟩
instance : Und Try.prog 159 (.int .i32) := ⟨Try.underlying159⟩
instance : Cel Try.prog 159 1 := ⟨by kernel_rfl⟩
instance : Siz Try.prog 159 1 := ⟨Try.sizeOf159⟩
instance : Agg Try.prog 159 false := ⟨Try.isAgg159⟩
instance : Zer Try.prog 159 (.int .i32 0) := ⟨Try.zeroValue159⟩
instance : Inf Try.prog 159 1 4 (.int .i32 0) := ⟨inf_of (by kernel_rfl)⟩
instance : Cel Try.prog 160 11 := ⟨by kernel_rfl⟩
instance : Siz Try.prog 160 11 := ⟨Try.sizeOf160⟩
instance : Agg Try.prog 160 true := ⟨Try.isAgg160⟩
instance : Zer Try.prog 160 (.agg #[.int .u64 0, .int .u64 0, .int .u32 0, .int .u8 0, .int .u8 0, .int .u8 0, .int .u8 0, .nilFunc, .pointer none, .int .i32 0, .int .i32 0]) := ⟨Try.zeroValue160⟩
instance : Inf Try.prog 160 11 48 (.agg #[.int .u64 0, .int .u64 0, .int .u32 0, .int .u8 0, .int .u8 0, .int .u8 0, .int .u8 0, .nilFunc, .pointer none, .int .i32 0, .int .i32 0]) := ⟨inf_of (by kernel_rfl)⟩
instance : Plc Try.prog 160 [(0, 1), (1, 1), (2, 1), (3, 1), (4, 1), (5, 1), (6, 1), (7, 1), (8, 1), (9, 1), (10, 1)] := ⟨⟨_, Try.runUnderlying160, fun w => by simp [Try.sizeOf113, Try.sizeOf12, Try.sizeOf154, Try.sizeOf155, Try.sizeOf156, Try.sizeOf157, Try.sizeOf158, Try.sizeOf159, Try.sizeOf5]⟩⟩
instance : Fld Try.prog 160 0 0 := ⟨fun w a => by simp [Instr.fieldAt, Instr.sureAddr, fieldPlace, Try.runUnderlying160, Try.sizeOf12]⟩
instance : Fld Try.prog 160 1 1 := ⟨fun w a => by simp [Instr.fieldAt, Instr.sureAddr, fieldPlace, Try.runUnderlying160, Try.sizeOf12]⟩
instance : Fld Try.prog 160 2 2 := ⟨fun w a => by simp [Instr.fieldAt, Instr.sureAddr, fieldPlace, Try.runUnderlying160, Try.sizeOf113]⟩
instance : Fld Try.prog 160 3 3 := ⟨fun w a => by simp [Instr.fieldAt, Instr.sureAddr, fieldPlace, Try.runUnderlying160, Try.sizeOf154]⟩
instance : Fld Try.prog 160 4 4 := ⟨fun w a => by simp [Instr.fieldAt, Instr.sureAddr, fieldPlace, Try.runUnderlying160, Try.sizeOf5]⟩
instance : Fld Try.prog 160 5 5 := ⟨fun w a => by simp [Instr.fieldAt, Instr.sureAddr, fieldPlace, Try.runUnderlying160, Try.sizeOf5]⟩
instance : Fld Try.prog 160 6 6 := ⟨fun w a => by simp [Instr.fieldAt, Instr.sureAddr, fieldPlace, Try.runUnderlying160, Try.sizeOf155]⟩
instance : Fld Try.prog 160 7 7 := ⟨fun w a => by simp [Instr.fieldAt, Instr.sureAddr, fieldPlace, Try.runUnderlying160, Try.sizeOf156]⟩
instance : Fld Try.prog 160 8 8 := ⟨fun w a => by simp [Instr.fieldAt, Instr.sureAddr, fieldPlace, Try.runUnderlying160, Try.sizeOf157]⟩
instance : Fld Try.prog 160 9 9 := ⟨fun w a => by simp [Instr.fieldAt, Instr.sureAddr, fieldPlace, Try.runUnderlying160, Try.sizeOf158]⟩
instance : Fld Try.prog 160 10 10 := ⟨fun w a => by simp [Instr.fieldAt, Instr.sureAddr, fieldPlace, Try.runUnderlying160, Try.sizeOf159]⟩
instance : Cel Try.prog 161 11 := ⟨by kernel_rfl⟩
instance : Siz Try.prog 161 11 := ⟨Try.sizeOf161⟩
instance : Agg Try.prog 161 true := ⟨Try.isAgg161⟩
instance : Zer Try.prog 161 (.agg #[.int .u64 0, .int .u64 0, .int .u32 0, .int .u8 0, .int .u8 0, .int .u8 0, .int .u8 0, .nilFunc, .pointer none, .int .i32 0, .int .i32 0]) := ⟨Try.zeroValue161⟩
instance : Inf Try.prog 161 11 48 (.agg #[.int .u64 0, .int .u64 0, .int .u32 0, .int .u8 0, .int .u8 0, .int .u8 0, .int .u8 0, .nilFunc, .pointer none, .int .i32 0, .int .i32 0]) := ⟨inf_of (by kernel_rfl)⟩
instance : Plc Try.prog 161 [(0, 1), (1, 1), (2, 1), (3, 1), (4, 1), (5, 1), (6, 1), (7, 1), (8, 1), (9, 1), (10, 1)] := ⟨⟨_, Try.runUnderlying161, fun w => by simp [Try.sizeOf113, Try.sizeOf12, Try.sizeOf154, Try.sizeOf155, Try.sizeOf156, Try.sizeOf157, Try.sizeOf158, Try.sizeOf159, Try.sizeOf5]⟩⟩
instance : Fld Try.prog 161 0 0 := ⟨fun w a => by simp [Instr.fieldAt, Instr.sureAddr, fieldPlace, Try.runUnderlying161, Try.sizeOf12]⟩
instance : Fld Try.prog 161 1 1 := ⟨fun w a => by simp [Instr.fieldAt, Instr.sureAddr, fieldPlace, Try.runUnderlying161, Try.sizeOf12]⟩
instance : Fld Try.prog 161 2 2 := ⟨fun w a => by simp [Instr.fieldAt, Instr.sureAddr, fieldPlace, Try.runUnderlying161, Try.sizeOf113]⟩
instance : Fld Try.prog 161 3 3 := ⟨fun w a => by simp [Instr.fieldAt, Instr.sureAddr, fieldPlace, Try.runUnderlying161, Try.sizeOf154]⟩
instance : Fld Try.prog 161 4 4 := ⟨fun w a => by simp [Instr.fieldAt, Instr.sureAddr, fieldPlace, Try.runUnderlying161, Try.sizeOf5]⟩
instance : Fld Try.prog 161 5 5 := ⟨fun w a => by simp [Instr.fieldAt, Instr.sureAddr, fieldPlace, Try.runUnderlying161, Try.sizeOf5]⟩
instance : Fld Try.prog 161 6 6 := ⟨fun w a => by simp [Instr.fieldAt, Instr.sureAddr, fieldPlace, Try.runUnderlying161, Try.sizeOf155]⟩
instance : Fld Try.prog 161 7 7 := ⟨fun w a => by simp [Instr.fieldAt, Instr.sureAddr, fieldPlace, Try.runUnderlying161, Try.sizeOf156]⟩
instance : Fld Try.prog 161 8 8 := ⟨fun w a => by simp [Instr.fieldAt, Instr.sureAddr, fieldPlace, Try.runUnderlying161, Try.sizeOf157]⟩
instance : Fld Try.prog 161 9 9 := ⟨fun w a => by simp [Instr.fieldAt, Instr.sureAddr, fieldPlace, Try.runUnderlying161, Try.sizeOf158]⟩
instance : Fld Try.prog 161 10 10 := ⟨fun w a => by simp [Instr.fieldAt, Instr.sureAddr, fieldPlace, Try.runUnderlying161, Try.sizeOf159]⟩
instance : Und Try.prog 162 .unsafePointer := ⟨Try.underlying162⟩
instance : Cel Try.prog 162 1 := ⟨by kernel_rfl⟩
instance : Siz Try.prog 162 1 := ⟨Try.sizeOf162⟩
instance : Agg Try.prog 162 false := ⟨Try.isAgg162⟩
instance : Zer Try.prog 162 (.pointer none) := ⟨Try.zeroValue162⟩
instance : Inf Try.prog 162 1 8 (.pointer none) := ⟨inf_of (by kernel_rfl)⟩
instance : Mix Try.prog := ⟨by decide⟩
end Go.Proofs
