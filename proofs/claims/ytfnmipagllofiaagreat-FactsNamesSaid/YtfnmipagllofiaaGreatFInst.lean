/- The facts on a seat's types, as instances of the abstract logic's classes. No condition. -/
import Derived.Test.YtfnmipagllofiaaGreatOpen
import Derived.Test.YtfnmipagllofiaaGreatOps17
import Derived.Test.YtfnmipagllofiaaGreatProg
namespace Go.Proofs
open Go.AL
instance : Cel Tryz.prog 0 1 := ⟨by kernel_rfl⟩
instance : Siz Tryz.prog 0 1 := ⟨Tryz.sizeOf0⟩
instance : Cel Tryz.prog 1 1 := ⟨by kernel_rfl⟩
instance : Siz Tryz.prog 1 1 := ⟨Tryz.sizeOf1⟩
instance : Agg Tryz.prog 1 false := ⟨Tryz.isAgg1⟩
instance : Zer Tryz.prog 1 (.nilFunc) := ⟨Tryz.zeroValue1⟩
instance : Inf Tryz.prog 1 1 8 (.nilFunc) := ⟨inf_of (by kernel_rfl)⟩
instance : Und Tryz.prog 2 (.int .i64) := ⟨Tryz.underlying2⟩
instance : Cel Tryz.prog 2 1 := ⟨by kernel_rfl⟩
instance : Siz Tryz.prog 2 1 := ⟨Tryz.sizeOf2⟩
instance : Agg Tryz.prog 2 false := ⟨Tryz.isAgg2⟩
instance : Zer Tryz.prog 2 (.int .i64 0) := ⟨Tryz.zeroValue2⟩
instance : Inf Tryz.prog 2 1 8 (.int .i64 0) := ⟨inf_of (by kernel_rfl)⟩
instance : Und Tryz.prog 3 (.int .i64) := ⟨Tryz.underlying3⟩
instance : Cel Tryz.prog 3 1 := ⟨by kernel_rfl⟩
instance : Siz Tryz.prog 3 1 := ⟨Tryz.sizeOf3⟩
instance : Agg Tryz.prog 3 false := ⟨Tryz.isAgg3⟩
instance : Zer Tryz.prog 3 (.int .i64 0) := ⟨Tryz.zeroValue3⟩
instance : Inf Tryz.prog 3 1 8 (.int .i64 0) := ⟨inf_of (by kernel_rfl)⟩
instance : Und Tryz.prog 4 .bool := ⟨Tryz.underlying4⟩
instance : Cel Tryz.prog 4 1 := ⟨by kernel_rfl⟩
instance : Siz Tryz.prog 4 1 := ⟨Tryz.sizeOf4⟩
instance : Agg Tryz.prog 4 false := ⟨Tryz.isAgg4⟩
instance : Zer Tryz.prog 4 (.bool false) := ⟨Tryz.zeroValue4⟩
instance : Inf Tryz.prog 4 1 1 (.bool false) := ⟨inf_of (by kernel_rfl)⟩
instance : Und Tryz.prog 5 (.int .u8) := ⟨Tryz.underlying5⟩
instance : Cel Tryz.prog 5 1 := ⟨by kernel_rfl⟩
instance : Siz Tryz.prog 5 1 := ⟨Tryz.sizeOf5⟩
instance : Agg Tryz.prog 5 false := ⟨Tryz.isAgg5⟩
instance : Zer Tryz.prog 5 (.int .u8 0) := ⟨Tryz.zeroValue5⟩
instance : Inf Tryz.prog 5 1 1 (.int .u8 0) := ⟨inf_of (by kernel_rfl)⟩
instance : Und Tryz.prog 6 (.int .u8) := ⟨Tryz.underlying6⟩
instance : Cel Tryz.prog 6 1 := ⟨by kernel_rfl⟩
instance : Siz Tryz.prog 6 1 := ⟨Tryz.sizeOf6⟩
instance : Agg Tryz.prog 6 false := ⟨Tryz.isAgg6⟩
instance : Zer Tryz.prog 6 (.int .u8 0) := ⟨Tryz.zeroValue6⟩
instance : Inf Tryz.prog 6 1 1 (.int .u8 0) := ⟨inf_of (by kernel_rfl)⟩
instance : Cel Tryz.prog 7 4 := ⟨by kernel_rfl⟩
instance : Siz Tryz.prog 7 4 := ⟨Tryz.sizeOf7⟩
instance : Agg Tryz.prog 7 true := ⟨Tryz.isAgg7⟩
instance : Zer Tryz.prog 7 (.agg #[.int .i64 0, .int .i64 0, .bool false, .int .u8 0]) := ⟨Tryz.zeroValue7⟩
instance : Inf Tryz.prog 7 4 24 (.agg #[.int .i64 0, .int .i64 0, .bool false, .int .u8 0]) := ⟨inf_of (by kernel_rfl)⟩
instance : Plc Tryz.prog 7 [(0, 1), (1, 1), (2, 1), (3, 1)] := ⟨⟨_, Tryz.runUnderlying7, fun w => by simp [Tryz.sizeOf2, Tryz.sizeOf3, Tryz.sizeOf4, Tryz.sizeOf6]⟩⟩
instance : Fld Tryz.prog 7 0 0 := ⟨fun w a => by simp [Instr.fieldAt, Instr.sureAddr, fieldPlace, Tryz.runUnderlying7, Tryz.sizeOf2]⟩
instance : Fld Tryz.prog 7 1 1 := ⟨fun w a => by simp [Instr.fieldAt, Instr.sureAddr, fieldPlace, Tryz.runUnderlying7, Tryz.sizeOf3]⟩
instance : Fld Tryz.prog 7 2 2 := ⟨fun w a => by simp [Instr.fieldAt, Instr.sureAddr, fieldPlace, Tryz.runUnderlying7, Tryz.sizeOf4]⟩
instance : Fld Tryz.prog 7 3 3 := ⟨fun w a => by simp [Instr.fieldAt, Instr.sureAddr, fieldPlace, Tryz.runUnderlying7, Tryz.sizeOf6]⟩
instance : Cel Tryz.prog 8 4 := ⟨by kernel_rfl⟩
instance : Siz Tryz.prog 8 4 := ⟨Tryz.sizeOf8⟩
instance : Agg Tryz.prog 8 true := ⟨Tryz.isAgg8⟩
instance : Zer Tryz.prog 8 (.agg #[.int .i64 0, .int .i64 0, .bool false, .int .u8 0]) := ⟨Tryz.zeroValue8⟩
instance : Inf Tryz.prog 8 4 24 (.agg #[.int .i64 0, .int .i64 0, .bool false, .int .u8 0]) := ⟨inf_of (by kernel_rfl)⟩
instance : Plc Tryz.prog 8 [(0, 1), (1, 1), (2, 1), (3, 1)] := ⟨⟨_, Tryz.runUnderlying8, fun w => by simp [Tryz.sizeOf2, Tryz.sizeOf3, Tryz.sizeOf4, Tryz.sizeOf6]⟩⟩
instance : Fld Tryz.prog 8 0 0 := ⟨fun w a => by simp [Instr.fieldAt, Instr.sureAddr, fieldPlace, Tryz.runUnderlying8, Tryz.sizeOf2]⟩
instance : Fld Tryz.prog 8 1 1 := ⟨fun w a => by simp [Instr.fieldAt, Instr.sureAddr, fieldPlace, Tryz.runUnderlying8, Tryz.sizeOf3]⟩
instance : Fld Tryz.prog 8 2 2 := ⟨fun w a => by simp [Instr.fieldAt, Instr.sureAddr, fieldPlace, Tryz.runUnderlying8, Tryz.sizeOf4]⟩
instance : Fld Tryz.prog 8 3 3 := ⟨fun w a => by simp [Instr.fieldAt, Instr.sureAddr, fieldPlace, Tryz.runUnderlying8, Tryz.sizeOf6]⟩
instance : Und Tryz.prog 9 .string := ⟨Tryz.underlying9⟩
instance : Cel Tryz.prog 9 1 := ⟨by kernel_rfl⟩
instance : Siz Tryz.prog 9 1 := ⟨Tryz.sizeOf9⟩
instance : Agg Tryz.prog 9 false := ⟨Tryz.isAgg9⟩
instance : Zer Tryz.prog 9 (.string ⟨#[]⟩) := ⟨Tryz.zeroValue9⟩
instance : Inf Tryz.prog 9 1 16 (.string ⟨#[]⟩) := ⟨inf_of (by kernel_rfl)⟩
instance : Und Tryz.prog 10 .string := ⟨Tryz.underlying10⟩
instance : Cel Tryz.prog 10 1 := ⟨by kernel_rfl⟩
instance : Siz Tryz.prog 10 1 := ⟨Tryz.sizeOf10⟩
instance : Agg Tryz.prog 10 false := ⟨Tryz.isAgg10⟩
instance : Zer Tryz.prog 10 (.string ⟨#[]⟩) := ⟨Tryz.zeroValue10⟩
instance : Inf Tryz.prog 10 1 16 (.string ⟨#[]⟩) := ⟨inf_of (by kernel_rfl)⟩
instance : Und Tryz.prog 11 .string := ⟨Tryz.underlying11⟩
instance : Cel Tryz.prog 11 1 := ⟨by kernel_rfl⟩
instance : Siz Tryz.prog 11 1 := ⟨Tryz.sizeOf11⟩
instance : Agg Tryz.prog 11 false := ⟨Tryz.isAgg11⟩
instance : Zer Tryz.prog 11 (.string ⟨#[]⟩) := ⟨Tryz.zeroValue11⟩
instance : Inf Tryz.prog 11 1 16 (.string ⟨#[]⟩) := ⟨inf_of (by kernel_rfl)⟩
instance : Und Tryz.prog 12 (.int .u64) := ⟨Tryz.underlying12⟩
instance : Cel Tryz.prog 12 1 := ⟨by kernel_rfl⟩
instance : Siz Tryz.prog 12 1 := ⟨Tryz.sizeOf12⟩
instance : Agg Tryz.prog 12 false := ⟨Tryz.isAgg12⟩
instance : Zer Tryz.prog 12 (.int .u64 0) := ⟨Tryz.zeroValue12⟩
instance : Inf Tryz.prog 12 1 8 (.int .u64 0) := ⟨inf_of (by kernel_rfl)⟩
instance : Cel Tryz.prog 13 2 := ⟨by kernel_rfl⟩
instance : Siz Tryz.prog 13 2 := ⟨Tryz.sizeOf13⟩
instance : Agg Tryz.prog 13 true := ⟨Tryz.isAgg13⟩
instance : Zer Tryz.prog 13 (.agg #[.string ⟨#[]⟩, .int .u64 0]) := ⟨Tryz.zeroValue13⟩
instance : Inf Tryz.prog 13 2 24 (.agg #[.string ⟨#[]⟩, .int .u64 0]) := ⟨inf_of (by kernel_rfl)⟩
instance : Plc Tryz.prog 13 [(0, 1), (1, 1)] := ⟨⟨_, Tryz.runUnderlying13, fun w => by simp [Tryz.sizeOf12, Tryz.sizeOf9]⟩⟩
instance : Fld Tryz.prog 13 0 0 := ⟨fun w a => by simp [Instr.fieldAt, Instr.sureAddr, fieldPlace, Tryz.runUnderlying13, Tryz.sizeOf9]⟩
instance : Fld Tryz.prog 13 1 1 := ⟨fun w a => by simp [Instr.fieldAt, Instr.sureAddr, fieldPlace, Tryz.runUnderlying13, Tryz.sizeOf12]⟩
instance : Cel Tryz.prog 14 2 := ⟨by kernel_rfl⟩
instance : Siz Tryz.prog 14 2 := ⟨Tryz.sizeOf14⟩
instance : Agg Tryz.prog 14 true := ⟨Tryz.isAgg14⟩
instance : Zer Tryz.prog 14 (.agg #[.string ⟨#[]⟩, .int .u64 0]) := ⟨Tryz.zeroValue14⟩
instance : Inf Tryz.prog 14 2 24 (.agg #[.string ⟨#[]⟩, .int .u64 0]) := ⟨inf_of (by kernel_rfl)⟩
instance : Plc Tryz.prog 14 [(0, 1), (1, 1)] := ⟨⟨_, Tryz.runUnderlying14, fun w => by simp [Tryz.sizeOf12, Tryz.sizeOf9]⟩⟩
instance : Fld Tryz.prog 14 0 0 := ⟨fun w a => by simp [Instr.fieldAt, Instr.sureAddr, fieldPlace, Tryz.runUnderlying14, Tryz.sizeOf9]⟩
instance : Fld Tryz.prog 14 1 1 := ⟨fun w a => by simp [Instr.fieldAt, Instr.sureAddr, fieldPlace, Tryz.runUnderlying14, Tryz.sizeOf12]⟩
instance : Und Tryz.prog 15 (.pointer 185) := ⟨Tryz.underlying15⟩
instance : Cel Tryz.prog 15 1 := ⟨by kernel_rfl⟩
instance : Siz Tryz.prog 15 1 := ⟨Tryz.sizeOf15⟩
instance : Agg Tryz.prog 15 false := ⟨Tryz.isAgg15⟩
instance : Zer Tryz.prog 15 (.pointer none) := ⟨Tryz.zeroValue15⟩
instance : Inf Tryz.prog 15 1 8 (.pointer none) := ⟨inf_of (by kernel_rfl)⟩
instance : Und Tryz.prog 16 (.pointer 188) := ⟨Tryz.underlying16⟩
instance : Cel Tryz.prog 16 1 := ⟨by kernel_rfl⟩
instance : Siz Tryz.prog 16 1 := ⟨Tryz.sizeOf16⟩
instance : Agg Tryz.prog 16 false := ⟨Tryz.isAgg16⟩
instance : Zer Tryz.prog 16 (.pointer none) := ⟨Tryz.zeroValue16⟩
instance : Inf Tryz.prog 16 1 8 (.pointer none) := ⟨inf_of (by kernel_rfl)⟩
instance : Und Tryz.prog 17 (.pointer 197) := ⟨Tryz.underlying17⟩
instance : Cel Tryz.prog 17 1 := ⟨by kernel_rfl⟩
instance : Siz Tryz.prog 17 1 := ⟨Tryz.sizeOf17⟩
instance : Agg Tryz.prog 17 false := ⟨Tryz.isAgg17⟩
instance : Zer Tryz.prog 17 (.pointer none) := ⟨Tryz.zeroValue17⟩
instance : Inf Tryz.prog 17 1 8 (.pointer none) := ⟨inf_of (by kernel_rfl)⟩
instance : Cel Tryz.prog 18 1 := ⟨by kernel_rfl⟩
instance : Siz Tryz.prog 18 1 := ⟨Tryz.sizeOf18⟩
instance : Agg Tryz.prog 18 true := ⟨Tryz.isAgg18⟩
instance : Zer Tryz.prog 18 (.agg #[.pointer none]) := ⟨Tryz.zeroValue18⟩
instance : Inf Tryz.prog 18 1 8 (.agg #[.pointer none]) := ⟨inf_of (by kernel_rfl)⟩
instance : Plc Tryz.prog 18 [(0, 1)] := ⟨⟨_, Tryz.runUnderlying18, fun w => by simp [Tryz.sizeOf17]⟩⟩
instance : Fld Tryz.prog 18 0 0 := ⟨fun w a => by simp [Instr.fieldAt, Instr.sureAddr, fieldPlace, Tryz.runUnderlying18, Tryz.sizeOf17]⟩
instance : Cel Tryz.prog 19 1 := ⟨by kernel_rfl⟩
instance : Siz Tryz.prog 19 1 := ⟨Tryz.sizeOf19⟩
instance : Agg Tryz.prog 19 true := ⟨Tryz.isAgg19⟩
instance : Zer Tryz.prog 19 (.agg #[.pointer none]) := ⟨Tryz.zeroValue19⟩
instance : Inf Tryz.prog 19 1 8 (.agg #[.pointer none]) := ⟨inf_of (by kernel_rfl)⟩
instance : Plc Tryz.prog 19 [(0, 1)] := ⟨⟨_, Tryz.runUnderlying19, fun w => by simp [Tryz.sizeOf17]⟩⟩
instance : Fld Tryz.prog 19 0 0 := ⟨fun w a => by simp [Instr.fieldAt, Instr.sureAddr, fieldPlace, Tryz.runUnderlying19, Tryz.sizeOf17]⟩
instance : Ifc Tryz.prog 20 := ⟨⟨_, Tryz.underlying20⟩⟩
instance : Cel Tryz.prog 20 1 := ⟨by kernel_rfl⟩
instance : Siz Tryz.prog 20 1 := ⟨Tryz.sizeOf20⟩
instance : Agg Tryz.prog 20 false := ⟨Tryz.isAgg20⟩
instance : Zer Tryz.prog 20 (.nilIface) := ⟨Tryz.zeroValue20⟩
instance : Inf Tryz.prog 20 1 16 (.nilIface) := ⟨inf_of (by kernel_rfl)⟩
instance : Und Tryz.prog 21 (.int .i32) := ⟨Tryz.underlying21⟩
instance : Cel Tryz.prog 21 1 := ⟨by kernel_rfl⟩
instance : Siz Tryz.prog 21 1 := ⟨Tryz.sizeOf21⟩
instance : Agg Tryz.prog 21 false := ⟨Tryz.isAgg21⟩
instance : Zer Tryz.prog 21 (.int .i32 0) := ⟨Tryz.zeroValue21⟩
instance : Inf Tryz.prog 21 1 4 (.int .i32 0) := ⟨inf_of (by kernel_rfl)⟩
instance : Und Tryz.prog 22 (.slice 42) := ⟨Tryz.underlying22⟩
instance : Cel Tryz.prog 22 1 := ⟨by kernel_rfl⟩
instance : Siz Tryz.prog 22 1 := ⟨Tryz.sizeOf22⟩
instance : Agg Tryz.prog 22 false := ⟨Tryz.isAgg22⟩
instance : Zer Tryz.prog 22 (.slice none 0 0) := ⟨Tryz.zeroValue22⟩
instance : Inf Tryz.prog 22 1 24 (.slice none 0 0) := ⟨inf_of (by kernel_rfl)⟩
instance : Cel Tryz.prog 23 1 := ⟨by kernel_rfl⟩
instance : Siz Tryz.prog 23 1 := ⟨Tryz.sizeOf23⟩
instance : Agg Tryz.prog 23 false := ⟨Tryz.isAgg23⟩
instance : Zer Tryz.prog 23 (.nilFunc) := ⟨Tryz.zeroValue23⟩
instance : Inf Tryz.prog 23 1 8 (.nilFunc) := ⟨inf_of (by kernel_rfl)⟩
instance : Cel Tryz.prog 24 1 := ⟨by kernel_rfl⟩
instance : Siz Tryz.prog 24 1 := ⟨Tryz.sizeOf24⟩
instance : Agg Tryz.prog 24 false := ⟨Tryz.isAgg24⟩
instance : Zer Tryz.prog 24 (.nilFunc) := ⟨Tryz.zeroValue24⟩
instance : Inf Tryz.prog 24 1 8 (.nilFunc) := ⟨inf_of (by kernel_rfl)⟩
instance : Und Tryz.prog 25 (.int .i64) := ⟨Tryz.underlying25⟩
instance : Cel Tryz.prog 25 1 := ⟨by kernel_rfl⟩
instance : Siz Tryz.prog 25 1 := ⟨Tryz.sizeOf25⟩
instance : Agg Tryz.prog 25 false := ⟨Tryz.isAgg25⟩
instance : Zer Tryz.prog 25 (.int .i64 0) := ⟨Tryz.zeroValue25⟩
instance : Inf Tryz.prog 25 1 8 (.int .i64 0) := ⟨inf_of (by kernel_rfl)⟩
instance : Cel Tryz.prog 26 1 := ⟨by kernel_rfl⟩
instance : Siz Tryz.prog 26 1 := ⟨Tryz.sizeOf26⟩
instance : Agg Tryz.prog 26 false := ⟨Tryz.isAgg26⟩
instance : Zer Tryz.prog 26 (.nilFunc) := ⟨Tryz.zeroValue26⟩
instance : Inf Tryz.prog 26 1 8 (.nilFunc) := ⟨inf_of (by kernel_rfl)⟩
instance : Cel Tryz.prog 27 1 := ⟨by kernel_rfl⟩
instance : Siz Tryz.prog 27 1 := ⟨Tryz.sizeOf27⟩
instance : Cel Tryz.prog 28 1 := ⟨by kernel_rfl⟩
instance : Siz Tryz.prog 28 1 := ⟨Tryz.sizeOf28⟩
instance : Agg Tryz.prog 28 false := ⟨Tryz.isAgg28⟩
instance : Zer Tryz.prog 28 (.nilFunc) := ⟨Tryz.zeroValue28⟩
instance : Inf Tryz.prog 28 1 8 (.nilFunc) := ⟨inf_of (by kernel_rfl)⟩
instance : Cel Tryz.prog 29 1 := ⟨by kernel_rfl⟩
instance : Siz Tryz.prog 29 1 := ⟨Tryz.sizeOf29⟩
instance : Cel Tryz.prog 30 1 := ⟨by kernel_rfl⟩
instance : Siz Tryz.prog 30 1 := ⟨Tryz.sizeOf30⟩
instance : Agg Tryz.prog 30 false := ⟨Tryz.isAgg30⟩
instance : Zer Tryz.prog 30 (.nilFunc) := ⟨Tryz.zeroValue30⟩
instance : Inf Tryz.prog 30 1 8 (.nilFunc) := ⟨inf_of (by kernel_rfl)⟩
instance : Und Tryz.prog 31 (.slice 52) := ⟨Tryz.underlying31⟩
instance : Cel Tryz.prog 31 1 := ⟨by kernel_rfl⟩
instance : Siz Tryz.prog 31 1 := ⟨Tryz.sizeOf31⟩
instance : Agg Tryz.prog 31 false := ⟨Tryz.isAgg31⟩
instance : Zer Tryz.prog 31 (.slice none 0 0) := ⟨Tryz.zeroValue31⟩
instance : Inf Tryz.prog 31 1 24 (.slice none 0 0) := ⟨inf_of (by kernel_rfl)⟩
instance : Cel Tryz.prog 32 1 := ⟨by kernel_rfl⟩
instance : Siz Tryz.prog 32 1 := ⟨Tryz.sizeOf32⟩
instance : Cel Tryz.prog 33 1 := ⟨by kernel_rfl⟩
instance : Siz Tryz.prog 33 1 := ⟨Tryz.sizeOf33⟩
instance : Agg Tryz.prog 33 false := ⟨Tryz.isAgg33⟩
instance : Zer Tryz.prog 33 (.nilFunc) := ⟨Tryz.zeroValue33⟩
instance : Inf Tryz.prog 33 1 8 (.nilFunc) := ⟨inf_of (by kernel_rfl)⟩
instance : Cel Tryz.prog 34 1 := ⟨by kernel_rfl⟩
instance : Siz Tryz.prog 34 1 := ⟨Tryz.sizeOf34⟩
instance : Cel Tryz.prog 35 1 := ⟨by kernel_rfl⟩
instance : Siz Tryz.prog 35 1 := ⟨Tryz.sizeOf35⟩
instance : Agg Tryz.prog 35 false := ⟨Tryz.isAgg35⟩
instance : Zer Tryz.prog 35 (.nilFunc) := ⟨Tryz.zeroValue35⟩
instance : Inf Tryz.prog 35 1 8 (.nilFunc) := ⟨inf_of (by kernel_rfl)⟩
instance : Cel Tryz.prog 36 1 := ⟨by kernel_rfl⟩
instance : Siz Tryz.prog 36 1 := ⟨Tryz.sizeOf36⟩
instance : Agg Tryz.prog 36 false := ⟨Tryz.isAgg36⟩
instance : Zer Tryz.prog 36 (.nilFunc) := ⟨Tryz.zeroValue36⟩
instance : Inf Tryz.prog 36 1 8 (.nilFunc) := ⟨inf_of (by kernel_rfl)⟩
instance : Cel Tryz.prog 37 1 := ⟨by kernel_rfl⟩
instance : Siz Tryz.prog 37 1 := ⟨Tryz.sizeOf37⟩
instance : Agg Tryz.prog 37 false := ⟨Tryz.isAgg37⟩
instance : Zer Tryz.prog 37 (.nilFunc) := ⟨Tryz.zeroValue37⟩
instance : Inf Tryz.prog 37 1 8 (.nilFunc) := ⟨inf_of (by kernel_rfl)⟩
instance : Cel Tryz.prog 38 3 := ⟨by kernel_rfl⟩
instance : Siz Tryz.prog 38 3 := ⟨Tryz.sizeOf38⟩
instance : Agg Tryz.prog 38 true := ⟨Tryz.isAgg38⟩
instance : Zer Tryz.prog 38 (.agg #[.int .i64 0, .int .i64 0, .string ⟨#[]⟩]) := ⟨Tryz.zeroValue38⟩
instance : Inf Tryz.prog 38 3 32 (.agg #[.int .i64 0, .int .i64 0, .string ⟨#[]⟩]) := ⟨inf_of (by kernel_rfl)⟩
instance : Plc Tryz.prog 38 [(0, 1), (1, 1), (2, 1)] := ⟨⟨_, Tryz.runUnderlying38, fun w => by simp [Tryz.sizeOf2, Tryz.sizeOf3, Tryz.sizeOf9]⟩⟩
instance : Fld Tryz.prog 38 0 0 := ⟨fun w a => by simp [Instr.fieldAt, Instr.sureAddr, fieldPlace, Tryz.runUnderlying38, Tryz.sizeOf3]⟩
instance : Fld Tryz.prog 38 1 1 := ⟨fun w a => by simp [Instr.fieldAt, Instr.sureAddr, fieldPlace, Tryz.runUnderlying38, Tryz.sizeOf2]⟩
instance : Fld Tryz.prog 38 2 2 := ⟨fun w a => by simp [Instr.fieldAt, Instr.sureAddr, fieldPlace, Tryz.runUnderlying38, Tryz.sizeOf9]⟩
instance : Cel Tryz.prog 39 3 := ⟨by kernel_rfl⟩
instance : Siz Tryz.prog 39 3 := ⟨Tryz.sizeOf39⟩
instance : Agg Tryz.prog 39 true := ⟨Tryz.isAgg39⟩
instance : Zer Tryz.prog 39 (.agg #[.int .i64 0, .int .i64 0, .string ⟨#[]⟩]) := ⟨Tryz.zeroValue39⟩
instance : Inf Tryz.prog 39 3 32 (.agg #[.int .i64 0, .int .i64 0, .string ⟨#[]⟩]) := ⟨inf_of (by kernel_rfl)⟩
instance : Plc Tryz.prog 39 [(0, 1), (1, 1), (2, 1)] := ⟨⟨_, Tryz.runUnderlying39, fun w => by simp [Tryz.sizeOf2, Tryz.sizeOf3, Tryz.sizeOf9]⟩⟩
instance : Fld Tryz.prog 39 0 0 := ⟨fun w a => by simp [Instr.fieldAt, Instr.sureAddr, fieldPlace, Tryz.runUnderlying39, Tryz.sizeOf3]⟩
instance : Fld Tryz.prog 39 1 1 := ⟨fun w a => by simp [Instr.fieldAt, Instr.sureAddr, fieldPlace, Tryz.runUnderlying39, Tryz.sizeOf2]⟩
instance : Fld Tryz.prog 39 2 2 := ⟨fun w a => by simp [Instr.fieldAt, Instr.sureAddr, fieldPlace, Tryz.runUnderlying39, Tryz.sizeOf9]⟩
instance : Und Tryz.prog 40 (.slice 69) := ⟨Tryz.underlying40⟩
instance : Cel Tryz.prog 40 1 := ⟨by kernel_rfl⟩
instance : Siz Tryz.prog 40 1 := ⟨Tryz.sizeOf40⟩
instance : Agg Tryz.prog 40 false := ⟨Tryz.isAgg40⟩
instance : Zer Tryz.prog 40 (.slice none 0 0) := ⟨Tryz.zeroValue40⟩
instance : Inf Tryz.prog 40 1 24 (.slice none 0 0) := ⟨inf_of (by kernel_rfl)⟩
instance : Cel Tryz.prog 41 6 := ⟨by kernel_rfl⟩
instance : Siz Tryz.prog 41 6 := ⟨Tryz.sizeOf41⟩
instance : Agg Tryz.prog 41 true := ⟨Tryz.isAgg41⟩
instance : Zer Tryz.prog 41 (.agg #[.int .i64 0, .int .i64 0, .int .i64 0, .int .i64 0, .string ⟨#[]⟩, .slice none 0 0]) := ⟨Tryz.zeroValue41⟩
instance : Inf Tryz.prog 41 6 72 (.agg #[.int .i64 0, .int .i64 0, .int .i64 0, .int .i64 0, .string ⟨#[]⟩, .slice none 0 0]) := ⟨inf_of (by kernel_rfl)⟩
instance : Plc Tryz.prog 41 [(0, 1), (1, 1), (2, 3), (5, 1)] := ⟨⟨_, Tryz.runUnderlying41, fun w => by simp [Tryz.sizeOf2, Tryz.sizeOf39, Tryz.sizeOf40]⟩⟩
instance : Fld Tryz.prog 41 0 0 := ⟨fun w a => by simp [Instr.fieldAt, Instr.sureAddr, fieldPlace, Tryz.runUnderlying41, Tryz.sizeOf2]⟩
instance : Fld Tryz.prog 41 1 1 := ⟨fun w a => by simp [Instr.fieldAt, Instr.sureAddr, fieldPlace, Tryz.runUnderlying41, Tryz.sizeOf2]⟩
instance : Fld Tryz.prog 41 2 2 := ⟨fun w a => by simp [Instr.fieldAt, Instr.sureAddr, fieldPlace, Tryz.runUnderlying41, Tryz.sizeOf39]⟩
instance : Fld Tryz.prog 41 3 5 := ⟨fun w a => by simp [Instr.fieldAt, Instr.sureAddr, fieldPlace, Tryz.runUnderlying41, Tryz.sizeOf40]⟩
instance : Cel Tryz.prog 42 6 := ⟨by kernel_rfl⟩
instance : Siz Tryz.prog 42 6 := ⟨Tryz.sizeOf42⟩
instance : Agg Tryz.prog 42 true := ⟨Tryz.isAgg42⟩
instance : Zer Tryz.prog 42 (.agg #[.int .i64 0, .int .i64 0, .int .i64 0, .int .i64 0, .string ⟨#[]⟩, .slice none 0 0]) := ⟨Tryz.zeroValue42⟩
instance : Inf Tryz.prog 42 6 72 (.agg #[.int .i64 0, .int .i64 0, .int .i64 0, .int .i64 0, .string ⟨#[]⟩, .slice none 0 0]) := ⟨inf_of (by kernel_rfl)⟩
instance : Plc Tryz.prog 42 [(0, 1), (1, 1), (2, 3), (5, 1)] := ⟨⟨_, Tryz.runUnderlying42, fun w => by simp [Tryz.sizeOf2, Tryz.sizeOf39, Tryz.sizeOf40]⟩⟩
instance : Fld Tryz.prog 42 0 0 := ⟨fun w a => by simp [Instr.fieldAt, Instr.sureAddr, fieldPlace, Tryz.runUnderlying42, Tryz.sizeOf2]⟩
instance : Fld Tryz.prog 42 1 1 := ⟨fun w a => by simp [Instr.fieldAt, Instr.sureAddr, fieldPlace, Tryz.runUnderlying42, Tryz.sizeOf2]⟩
instance : Fld Tryz.prog 42 2 2 := ⟨fun w a => by simp [Instr.fieldAt, Instr.sureAddr, fieldPlace, Tryz.runUnderlying42, Tryz.sizeOf39]⟩
instance : Fld Tryz.prog 42 3 5 := ⟨fun w a => by simp [Instr.fieldAt, Instr.sureAddr, fieldPlace, Tryz.runUnderlying42, Tryz.sizeOf40]⟩
instance : Cel Tryz.prog 43 1 := ⟨by kernel_rfl⟩
instance : Siz Tryz.prog 43 1 := ⟨Tryz.sizeOf43⟩
instance : Cel Tryz.prog 44 1 := ⟨by kernel_rfl⟩
instance : Siz Tryz.prog 44 1 := ⟨Tryz.sizeOf44⟩
instance : Agg Tryz.prog 44 false := ⟨Tryz.isAgg44⟩
instance : Zer Tryz.prog 44 (.nilFunc) := ⟨Tryz.zeroValue44⟩
instance : Inf Tryz.prog 44 1 8 (.nilFunc) := ⟨inf_of (by kernel_rfl)⟩
instance : Cel Tryz.prog 45 1 := ⟨by kernel_rfl⟩
instance : Siz Tryz.prog 45 1 := ⟨Tryz.sizeOf45⟩
instance : Cel Tryz.prog 46 1 := ⟨by kernel_rfl⟩
instance : Siz Tryz.prog 46 1 := ⟨Tryz.sizeOf46⟩
instance : Agg Tryz.prog 46 false := ⟨Tryz.isAgg46⟩
instance : Zer Tryz.prog 46 (.nilFunc) := ⟨Tryz.zeroValue46⟩
instance : Inf Tryz.prog 46 1 8 (.nilFunc) := ⟨inf_of (by kernel_rfl)⟩
instance : Cel Tryz.prog 47 1 := ⟨by kernel_rfl⟩
instance : Siz Tryz.prog 47 1 := ⟨Tryz.sizeOf47⟩
instance : Agg Tryz.prog 47 false := ⟨Tryz.isAgg47⟩
instance : Zer Tryz.prog 47 (.nilFunc) := ⟨Tryz.zeroValue47⟩
instance : Inf Tryz.prog 47 1 8 (.nilFunc) := ⟨inf_of (by kernel_rfl)⟩
instance : Cel Tryz.prog 48 1 := ⟨by kernel_rfl⟩
instance : Siz Tryz.prog 48 1 := ⟨Tryz.sizeOf48⟩
instance : Agg Tryz.prog 48 false := ⟨Tryz.isAgg48⟩
instance : Zer Tryz.prog 48 (.nilFunc) := ⟨Tryz.zeroValue48⟩
instance : Inf Tryz.prog 48 1 8 (.nilFunc) := ⟨inf_of (by kernel_rfl)⟩
instance : Cel Tryz.prog 49 1 := ⟨by kernel_rfl⟩
instance : Siz Tryz.prog 49 1 := ⟨Tryz.sizeOf49⟩
instance : Agg Tryz.prog 49 false := ⟨Tryz.isAgg49⟩
instance : Zer Tryz.prog 49 (.nilFunc) := ⟨Tryz.zeroValue49⟩
instance : Inf Tryz.prog 49 1 8 (.nilFunc) := ⟨inf_of (by kernel_rfl)⟩
instance : Cel Tryz.prog 50 1 := ⟨by kernel_rfl⟩
instance : Siz Tryz.prog 50 1 := ⟨Tryz.sizeOf50⟩
instance : Agg Tryz.prog 50 false := ⟨Tryz.isAgg50⟩
instance : Zer Tryz.prog 50 (.nilFunc) := ⟨Tryz.zeroValue50⟩
instance : Inf Tryz.prog 50 1 8 (.nilFunc) := ⟨inf_of (by kernel_rfl)⟩
instance : Cel Tryz.prog 51 9 := ⟨by kernel_rfl⟩
instance : Siz Tryz.prog 51 9 := ⟨Tryz.sizeOf51⟩
instance : Agg Tryz.prog 51 true := ⟨Tryz.isAgg51⟩
instance : Zer Tryz.prog 51 (.agg #[.int .i64 0, .int .i64 0, .int .i64 0, .int .i64 0, .string ⟨#[]⟩, .int .i64 0, .bool false, .int .i64 0, .int .i64 0]) := ⟨Tryz.zeroValue51⟩
instance : Inf Tryz.prog 51 9 80 (.agg #[.int .i64 0, .int .i64 0, .int .i64 0, .int .i64 0, .string ⟨#[]⟩, .int .i64 0, .bool false, .int .i64 0, .int .i64 0]) := ⟨inf_of (by kernel_rfl)⟩
instance : Plc Tryz.prog 51 [(0, 1), (1, 1), (2, 3), (5, 1), (6, 1), (7, 1), (8, 1)] := ⟨⟨_, Tryz.runUnderlying51, fun w => by simp [Tryz.sizeOf2, Tryz.sizeOf39, Tryz.sizeOf4]⟩⟩
instance : Fld Tryz.prog 51 0 0 := ⟨fun w a => by simp [Instr.fieldAt, Instr.sureAddr, fieldPlace, Tryz.runUnderlying51, Tryz.sizeOf2]⟩
instance : Fld Tryz.prog 51 1 1 := ⟨fun w a => by simp [Instr.fieldAt, Instr.sureAddr, fieldPlace, Tryz.runUnderlying51, Tryz.sizeOf2]⟩
instance : Fld Tryz.prog 51 2 2 := ⟨fun w a => by simp [Instr.fieldAt, Instr.sureAddr, fieldPlace, Tryz.runUnderlying51, Tryz.sizeOf39]⟩
instance : Fld Tryz.prog 51 3 5 := ⟨fun w a => by simp [Instr.fieldAt, Instr.sureAddr, fieldPlace, Tryz.runUnderlying51, Tryz.sizeOf2]⟩
instance : Fld Tryz.prog 51 4 6 := ⟨fun w a => by simp [Instr.fieldAt, Instr.sureAddr, fieldPlace, Tryz.runUnderlying51, Tryz.sizeOf4]⟩
instance : Fld Tryz.prog 51 5 7 := ⟨fun w a => by simp [Instr.fieldAt, Instr.sureAddr, fieldPlace, Tryz.runUnderlying51, Tryz.sizeOf2]⟩
instance : Fld Tryz.prog 51 6 8 := ⟨fun w a => by simp [Instr.fieldAt, Instr.sureAddr, fieldPlace, Tryz.runUnderlying51, Tryz.sizeOf2]⟩
instance : Cel Tryz.prog 52 9 := ⟨by kernel_rfl⟩
instance : Siz Tryz.prog 52 9 := ⟨Tryz.sizeOf52⟩
instance : Agg Tryz.prog 52 true := ⟨Tryz.isAgg52⟩
instance : Zer Tryz.prog 52 (.agg #[.int .i64 0, .int .i64 0, .int .i64 0, .int .i64 0, .string ⟨#[]⟩, .int .i64 0, .bool false, .int .i64 0, .int .i64 0]) := ⟨Tryz.zeroValue52⟩
instance : Inf Tryz.prog 52 9 80 (.agg #[.int .i64 0, .int .i64 0, .int .i64 0, .int .i64 0, .string ⟨#[]⟩, .int .i64 0, .bool false, .int .i64 0, .int .i64 0]) := ⟨inf_of (by kernel_rfl)⟩
instance : Plc Tryz.prog 52 [(0, 1), (1, 1), (2, 3), (5, 1), (6, 1), (7, 1), (8, 1)] := ⟨⟨_, Tryz.runUnderlying52, fun w => by simp [Tryz.sizeOf2, Tryz.sizeOf39, Tryz.sizeOf4]⟩⟩
instance : Fld Tryz.prog 52 0 0 := ⟨fun w a => by simp [Instr.fieldAt, Instr.sureAddr, fieldPlace, Tryz.runUnderlying52, Tryz.sizeOf2]⟩
instance : Fld Tryz.prog 52 1 1 := ⟨fun w a => by simp [Instr.fieldAt, Instr.sureAddr, fieldPlace, Tryz.runUnderlying52, Tryz.sizeOf2]⟩
instance : Fld Tryz.prog 52 2 2 := ⟨fun w a => by simp [Instr.fieldAt, Instr.sureAddr, fieldPlace, Tryz.runUnderlying52, Tryz.sizeOf39]⟩
instance : Fld Tryz.prog 52 3 5 := ⟨fun w a => by simp [Instr.fieldAt, Instr.sureAddr, fieldPlace, Tryz.runUnderlying52, Tryz.sizeOf2]⟩
instance : Fld Tryz.prog 52 4 6 := ⟨fun w a => by simp [Instr.fieldAt, Instr.sureAddr, fieldPlace, Tryz.runUnderlying52, Tryz.sizeOf4]⟩
instance : Fld Tryz.prog 52 5 7 := ⟨fun w a => by simp [Instr.fieldAt, Instr.sureAddr, fieldPlace, Tryz.runUnderlying52, Tryz.sizeOf2]⟩
instance : Fld Tryz.prog 52 6 8 := ⟨fun w a => by simp [Instr.fieldAt, Instr.sureAddr, fieldPlace, Tryz.runUnderlying52, Tryz.sizeOf2]⟩
instance : Cel Tryz.prog 53 1 := ⟨by kernel_rfl⟩
instance : Siz Tryz.prog 53 1 := ⟨Tryz.sizeOf53⟩
instance : Agg Tryz.prog 53 false := ⟨Tryz.isAgg53⟩
instance : Zer Tryz.prog 53 (.nilFunc) := ⟨Tryz.zeroValue53⟩
instance : Inf Tryz.prog 53 1 8 (.nilFunc) := ⟨inf_of (by kernel_rfl)⟩
instance : Cel Tryz.prog 54 1 := ⟨by kernel_rfl⟩
instance : Siz Tryz.prog 54 1 := ⟨Tryz.sizeOf54⟩
instance : Agg Tryz.prog 54 false := ⟨Tryz.isAgg54⟩
instance : Zer Tryz.prog 54 (.nilFunc) := ⟨Tryz.zeroValue54⟩
instance : Inf Tryz.prog 54 1 8 (.nilFunc) := ⟨inf_of (by kernel_rfl)⟩
instance : Cel Tryz.prog 55 1 := ⟨by kernel_rfl⟩
instance : Siz Tryz.prog 55 1 := ⟨Tryz.sizeOf55⟩
instance : Agg Tryz.prog 55 false := ⟨Tryz.isAgg55⟩
instance : Zer Tryz.prog 55 (.nilFunc) := ⟨Tryz.zeroValue55⟩
instance : Inf Tryz.prog 55 1 8 (.nilFunc) := ⟨inf_of (by kernel_rfl)⟩
instance : Cel Tryz.prog 56 5 := ⟨by kernel_rfl⟩
instance : Siz Tryz.prog 56 5 := ⟨Tryz.sizeOf56⟩
instance : Agg Tryz.prog 56 true := ⟨Tryz.isAgg56⟩
instance : Zer Tryz.prog 56 (.agg #[.int .i64 0, .int .i64 0, .int .i64 0, .bool false, .bool false]) := ⟨Tryz.zeroValue56⟩
instance : Inf Tryz.prog 56 5 32 (.agg #[.int .i64 0, .int .i64 0, .int .i64 0, .bool false, .bool false]) := ⟨inf_of (by kernel_rfl)⟩
instance : Plc Tryz.prog 56 [(0, 1), (1, 1), (2, 1), (3, 1), (4, 1)] := ⟨⟨_, Tryz.runUnderlying56, fun w => by simp [Tryz.sizeOf2, Tryz.sizeOf4]⟩⟩
instance : Fld Tryz.prog 56 0 0 := ⟨fun w a => by simp [Instr.fieldAt, Instr.sureAddr, fieldPlace, Tryz.runUnderlying56, Tryz.sizeOf2]⟩
instance : Fld Tryz.prog 56 1 1 := ⟨fun w a => by simp [Instr.fieldAt, Instr.sureAddr, fieldPlace, Tryz.runUnderlying56, Tryz.sizeOf2]⟩
instance : Fld Tryz.prog 56 2 2 := ⟨fun w a => by simp [Instr.fieldAt, Instr.sureAddr, fieldPlace, Tryz.runUnderlying56, Tryz.sizeOf2]⟩
instance : Fld Tryz.prog 56 3 3 := ⟨fun w a => by simp [Instr.fieldAt, Instr.sureAddr, fieldPlace, Tryz.runUnderlying56, Tryz.sizeOf4]⟩
instance : Fld Tryz.prog 56 4 4 := ⟨fun w a => by simp [Instr.fieldAt, Instr.sureAddr, fieldPlace, Tryz.runUnderlying56, Tryz.sizeOf4]⟩
instance : Cel Tryz.prog 57 5 := ⟨by kernel_rfl⟩
instance : Siz Tryz.prog 57 5 := ⟨Tryz.sizeOf57⟩
instance : Agg Tryz.prog 57 true := ⟨Tryz.isAgg57⟩
instance : Zer Tryz.prog 57 (.agg #[.int .i64 0, .int .i64 0, .int .i64 0, .bool false, .bool false]) := ⟨Tryz.zeroValue57⟩
instance : Inf Tryz.prog 57 5 32 (.agg #[.int .i64 0, .int .i64 0, .int .i64 0, .bool false, .bool false]) := ⟨inf_of (by kernel_rfl)⟩
instance : Plc Tryz.prog 57 [(0, 1), (1, 1), (2, 1), (3, 1), (4, 1)] := ⟨⟨_, Tryz.runUnderlying57, fun w => by simp [Tryz.sizeOf2, Tryz.sizeOf4]⟩⟩
instance : Fld Tryz.prog 57 0 0 := ⟨fun w a => by simp [Instr.fieldAt, Instr.sureAddr, fieldPlace, Tryz.runUnderlying57, Tryz.sizeOf2]⟩
instance : Fld Tryz.prog 57 1 1 := ⟨fun w a => by simp [Instr.fieldAt, Instr.sureAddr, fieldPlace, Tryz.runUnderlying57, Tryz.sizeOf2]⟩
instance : Fld Tryz.prog 57 2 2 := ⟨fun w a => by simp [Instr.fieldAt, Instr.sureAddr, fieldPlace, Tryz.runUnderlying57, Tryz.sizeOf2]⟩
instance : Fld Tryz.prog 57 3 3 := ⟨fun w a => by simp [Instr.fieldAt, Instr.sureAddr, fieldPlace, Tryz.runUnderlying57, Tryz.sizeOf4]⟩
instance : Fld Tryz.prog 57 4 4 := ⟨fun w a => by simp [Instr.fieldAt, Instr.sureAddr, fieldPlace, Tryz.runUnderlying57, Tryz.sizeOf4]⟩
instance : Cel Tryz.prog 58 1 := ⟨by kernel_rfl⟩
instance : Siz Tryz.prog 58 1 := ⟨Tryz.sizeOf58⟩
instance : Agg Tryz.prog 58 false := ⟨Tryz.isAgg58⟩
instance : Zer Tryz.prog 58 (.nilFunc) := ⟨Tryz.zeroValue58⟩
instance : Inf Tryz.prog 58 1 8 (.nilFunc) := ⟨inf_of (by kernel_rfl)⟩
instance : Cel Tryz.prog 59 1 := ⟨by kernel_rfl⟩
instance : Siz Tryz.prog 59 1 := ⟨Tryz.sizeOf59⟩
instance : Agg Tryz.prog 59 false := ⟨Tryz.isAgg59⟩
instance : Zer Tryz.prog 59 (.nilFunc) := ⟨Tryz.zeroValue59⟩
instance : Inf Tryz.prog 59 1 8 (.nilFunc) := ⟨inf_of (by kernel_rfl)⟩
instance : Cel Tryz.prog 60 1 := ⟨by kernel_rfl⟩
instance : Siz Tryz.prog 60 1 := ⟨Tryz.sizeOf60⟩
instance : Agg Tryz.prog 60 false := ⟨Tryz.isAgg60⟩
instance : Zer Tryz.prog 60 (.nilFunc) := ⟨Tryz.zeroValue60⟩
instance : Inf Tryz.prog 60 1 8 (.nilFunc) := ⟨inf_of (by kernel_rfl)⟩
instance : Cel Tryz.prog 61 1 := ⟨by kernel_rfl⟩
instance : Siz Tryz.prog 61 1 := ⟨Tryz.sizeOf61⟩
instance : Agg Tryz.prog 61 false := ⟨Tryz.isAgg61⟩
instance : Zer Tryz.prog 61 (.nilFunc) := ⟨Tryz.zeroValue61⟩
instance : Inf Tryz.prog 61 1 8 (.nilFunc) := ⟨inf_of (by kernel_rfl)⟩
instance : Cel Tryz.prog 62 1 := ⟨by kernel_rfl⟩
instance : Siz Tryz.prog 62 1 := ⟨Tryz.sizeOf62⟩
instance : Agg Tryz.prog 62 false := ⟨Tryz.isAgg62⟩
instance : Zer Tryz.prog 62 (.nilFunc) := ⟨Tryz.zeroValue62⟩
instance : Inf Tryz.prog 62 1 8 (.nilFunc) := ⟨inf_of (by kernel_rfl)⟩
instance : Cel Tryz.prog 63 1 := ⟨by kernel_rfl⟩
instance : Siz Tryz.prog 63 1 := ⟨Tryz.sizeOf63⟩
instance : Agg Tryz.prog 63 false := ⟨Tryz.isAgg63⟩
instance : Zer Tryz.prog 63 (.nilFunc) := ⟨Tryz.zeroValue63⟩
instance : Inf Tryz.prog 63 1 8 (.nilFunc) := ⟨inf_of (by kernel_rfl)⟩
instance : Cel Tryz.prog 64 1 := ⟨by kernel_rfl⟩
instance : Siz Tryz.prog 64 1 := ⟨Tryz.sizeOf64⟩
instance : Agg Tryz.prog 64 false := ⟨Tryz.isAgg64⟩
instance : Zer Tryz.prog 64 (.nilFunc) := ⟨Tryz.zeroValue64⟩
instance : Inf Tryz.prog 64 1 8 (.nilFunc) := ⟨inf_of (by kernel_rfl)⟩
instance : Cel Tryz.prog 65 1 := ⟨by kernel_rfl⟩
instance : Siz Tryz.prog 65 1 := ⟨Tryz.sizeOf65⟩
instance : Agg Tryz.prog 65 false := ⟨Tryz.isAgg65⟩
instance : Zer Tryz.prog 65 (.nilFunc) := ⟨Tryz.zeroValue65⟩
instance : Inf Tryz.prog 65 1 8 (.nilFunc) := ⟨inf_of (by kernel_rfl)⟩
instance : Cel Tryz.prog 66 1 := ⟨by kernel_rfl⟩
instance : Siz Tryz.prog 66 1 := ⟨Tryz.sizeOf66⟩
instance : Agg Tryz.prog 66 false := ⟨Tryz.isAgg66⟩
instance : Zer Tryz.prog 66 (.nilFunc) := ⟨Tryz.zeroValue66⟩
instance : Inf Tryz.prog 66 1 8 (.nilFunc) := ⟨inf_of (by kernel_rfl)⟩
instance : Cel Tryz.prog 67 1 := ⟨by kernel_rfl⟩
instance : Siz Tryz.prog 67 1 := ⟨Tryz.sizeOf67⟩
instance : Agg Tryz.prog 67 false := ⟨Tryz.isAgg67⟩
instance : Zer Tryz.prog 67 (.nilFunc) := ⟨Tryz.zeroValue67⟩
instance : Inf Tryz.prog 67 1 8 (.nilFunc) := ⟨inf_of (by kernel_rfl)⟩
instance : Cel Tryz.prog 68 2 := ⟨by kernel_rfl⟩
instance : Siz Tryz.prog 68 2 := ⟨Tryz.sizeOf68⟩
instance : Agg Tryz.prog 68 true := ⟨Tryz.isAgg68⟩
instance : Zer Tryz.prog 68 (.agg #[.int .i64 0, .int .i64 0]) := ⟨Tryz.zeroValue68⟩
instance : Inf Tryz.prog 68 2 16 (.agg #[.int .i64 0, .int .i64 0]) := ⟨inf_of (by kernel_rfl)⟩
instance : Plc Tryz.prog 68 [(0, 1), (1, 1)] := ⟨⟨_, Tryz.runUnderlying68, fun w => by simp [Tryz.sizeOf2]⟩⟩
instance : Fld Tryz.prog 68 0 0 := ⟨fun w a => by simp [Instr.fieldAt, Instr.sureAddr, fieldPlace, Tryz.runUnderlying68, Tryz.sizeOf2]⟩
instance : Fld Tryz.prog 68 1 1 := ⟨fun w a => by simp [Instr.fieldAt, Instr.sureAddr, fieldPlace, Tryz.runUnderlying68, Tryz.sizeOf2]⟩
instance : Cel Tryz.prog 69 2 := ⟨by kernel_rfl⟩
instance : Siz Tryz.prog 69 2 := ⟨Tryz.sizeOf69⟩
instance : Agg Tryz.prog 69 true := ⟨Tryz.isAgg69⟩
instance : Zer Tryz.prog 69 (.agg #[.int .i64 0, .int .i64 0]) := ⟨Tryz.zeroValue69⟩
instance : Inf Tryz.prog 69 2 16 (.agg #[.int .i64 0, .int .i64 0]) := ⟨inf_of (by kernel_rfl)⟩
instance : Plc Tryz.prog 69 [(0, 1), (1, 1)] := ⟨⟨_, Tryz.runUnderlying69, fun w => by simp [Tryz.sizeOf2]⟩⟩
instance : Fld Tryz.prog 69 0 0 := ⟨fun w a => by simp [Instr.fieldAt, Instr.sureAddr, fieldPlace, Tryz.runUnderlying69, Tryz.sizeOf2]⟩
instance : Fld Tryz.prog 69 1 1 := ⟨fun w a => by simp [Instr.fieldAt, Instr.sureAddr, fieldPlace, Tryz.runUnderlying69, Tryz.sizeOf2]⟩
instance : Cel Tryz.prog 70 1 := ⟨by kernel_rfl⟩
instance : Siz Tryz.prog 70 1 := ⟨Tryz.sizeOf70⟩
instance : Agg Tryz.prog 70 false := ⟨Tryz.isAgg70⟩
instance : Zer Tryz.prog 70 (.nilFunc) := ⟨Tryz.zeroValue70⟩
instance : Inf Tryz.prog 70 1 8 (.nilFunc) := ⟨inf_of (by kernel_rfl)⟩
instance : Cel Tryz.prog 71 1 := ⟨by kernel_rfl⟩
instance : Siz Tryz.prog 71 1 := ⟨Tryz.sizeOf71⟩
instance : Agg Tryz.prog 71 false := ⟨Tryz.isAgg71⟩
instance : Zer Tryz.prog 71 (.nilFunc) := ⟨Tryz.zeroValue71⟩
instance : Inf Tryz.prog 71 1 8 (.nilFunc) := ⟨inf_of (by kernel_rfl)⟩
instance : Cel Tryz.prog 72 1 := ⟨by kernel_rfl⟩
instance : Siz Tryz.prog 72 1 := ⟨Tryz.sizeOf72⟩
instance : Agg Tryz.prog 72 false := ⟨Tryz.isAgg72⟩
instance : Zer Tryz.prog 72 (.nilFunc) := ⟨Tryz.zeroValue72⟩
instance : Inf Tryz.prog 72 1 8 (.nilFunc) := ⟨inf_of (by kernel_rfl)⟩
instance : Cel Tryz.prog 73 1 := ⟨by kernel_rfl⟩
instance : Siz Tryz.prog 73 1 := ⟨Tryz.sizeOf73⟩
instance : Agg Tryz.prog 73 false := ⟨Tryz.isAgg73⟩
instance : Zer Tryz.prog 73 (.nilFunc) := ⟨Tryz.zeroValue73⟩
instance : Inf Tryz.prog 73 1 8 (.nilFunc) := ⟨inf_of (by kernel_rfl)⟩
instance : Cel Tryz.prog 74 1 := ⟨by kernel_rfl⟩
instance : Siz Tryz.prog 74 1 := ⟨Tryz.sizeOf74⟩
instance : Agg Tryz.prog 74 false := ⟨Tryz.isAgg74⟩
instance : Zer Tryz.prog 74 (.nilFunc) := ⟨Tryz.zeroValue74⟩
instance : Inf Tryz.prog 74 1 8 (.nilFunc) := ⟨inf_of (by kernel_rfl)⟩
instance : Cel Tryz.prog 75 1 := ⟨by kernel_rfl⟩
instance : Siz Tryz.prog 75 1 := ⟨Tryz.sizeOf75⟩
instance : Agg Tryz.prog 75 false := ⟨Tryz.isAgg75⟩
instance : Zer Tryz.prog 75 (.nilFunc) := ⟨Tryz.zeroValue75⟩
instance : Inf Tryz.prog 75 1 8 (.nilFunc) := ⟨inf_of (by kernel_rfl)⟩
instance : Cel Tryz.prog 76 1 := ⟨by kernel_rfl⟩
instance : Siz Tryz.prog 76 1 := ⟨Tryz.sizeOf76⟩
instance : Agg Tryz.prog 76 false := ⟨Tryz.isAgg76⟩
instance : Zer Tryz.prog 76 (.nilFunc) := ⟨Tryz.zeroValue76⟩
instance : Inf Tryz.prog 76 1 8 (.nilFunc) := ⟨inf_of (by kernel_rfl)⟩
instance : Cel Tryz.prog 77 1 := ⟨by kernel_rfl⟩
instance : Siz Tryz.prog 77 1 := ⟨Tryz.sizeOf77⟩
instance : Agg Tryz.prog 77 false := ⟨Tryz.isAgg77⟩
instance : Zer Tryz.prog 77 (.nilFunc) := ⟨Tryz.zeroValue77⟩
instance : Inf Tryz.prog 77 1 8 (.nilFunc) := ⟨inf_of (by kernel_rfl)⟩
instance : Cel Tryz.prog 78 1 := ⟨by kernel_rfl⟩
instance : Siz Tryz.prog 78 1 := ⟨Tryz.sizeOf78⟩
instance : Cel Tryz.prog 79 1 := ⟨by kernel_rfl⟩
instance : Siz Tryz.prog 79 1 := ⟨Tryz.sizeOf79⟩
instance : Agg Tryz.prog 79 false := ⟨Tryz.isAgg79⟩
instance : Zer Tryz.prog 79 (.nilFunc) := ⟨Tryz.zeroValue79⟩
instance : Inf Tryz.prog 79 1 8 (.nilFunc) := ⟨inf_of (by kernel_rfl)⟩
instance : Cel Tryz.prog 80 1 := ⟨by kernel_rfl⟩
instance : Siz Tryz.prog 80 1 := ⟨Tryz.sizeOf80⟩
instance : Agg Tryz.prog 80 false := ⟨Tryz.isAgg80⟩
instance : Zer Tryz.prog 80 (.nilFunc) := ⟨Tryz.zeroValue80⟩
instance : Inf Tryz.prog 80 1 8 (.nilFunc) := ⟨inf_of (by kernel_rfl)⟩
instance : Cel Tryz.prog 81 1 := ⟨by kernel_rfl⟩
instance : Siz Tryz.prog 81 1 := ⟨Tryz.sizeOf81⟩
instance : Agg Tryz.prog 81 false := ⟨Tryz.isAgg81⟩
instance : Zer Tryz.prog 81 (.nilFunc) := ⟨Tryz.zeroValue81⟩
instance : Inf Tryz.prog 81 1 8 (.nilFunc) := ⟨inf_of (by kernel_rfl)⟩
instance : Cel Tryz.prog 82 1 := ⟨by kernel_rfl⟩
instance : Siz Tryz.prog 82 1 := ⟨Tryz.sizeOf82⟩
instance : Agg Tryz.prog 82 false := ⟨Tryz.isAgg82⟩
instance : Zer Tryz.prog 82 (.nilFunc) := ⟨Tryz.zeroValue82⟩
instance : Inf Tryz.prog 82 1 8 (.nilFunc) := ⟨inf_of (by kernel_rfl)⟩
instance : Cel Tryz.prog 83 1 := ⟨by kernel_rfl⟩
instance : Siz Tryz.prog 83 1 := ⟨Tryz.sizeOf83⟩
instance : Agg Tryz.prog 83 false := ⟨Tryz.isAgg83⟩
instance : Zer Tryz.prog 83 (.nilFunc) := ⟨Tryz.zeroValue83⟩
instance : Inf Tryz.prog 83 1 8 (.nilFunc) := ⟨inf_of (by kernel_rfl)⟩
instance : Cel Tryz.prog 84 1 := ⟨by kernel_rfl⟩
instance : Siz Tryz.prog 84 1 := ⟨Tryz.sizeOf84⟩
instance : Agg Tryz.prog 84 false := ⟨Tryz.isAgg84⟩
instance : Zer Tryz.prog 84 (.nilFunc) := ⟨Tryz.zeroValue84⟩
instance : Inf Tryz.prog 84 1 8 (.nilFunc) := ⟨inf_of (by kernel_rfl)⟩
instance : Cel Tryz.prog 85 1 := ⟨by kernel_rfl⟩
instance : Siz Tryz.prog 85 1 := ⟨Tryz.sizeOf85⟩
instance : Agg Tryz.prog 85 false := ⟨Tryz.isAgg85⟩
instance : Zer Tryz.prog 85 (.nilFunc) := ⟨Tryz.zeroValue85⟩
instance : Inf Tryz.prog 85 1 8 (.nilFunc) := ⟨inf_of (by kernel_rfl)⟩
instance : Cel Tryz.prog 86 1 := ⟨by kernel_rfl⟩
instance : Siz Tryz.prog 86 1 := ⟨Tryz.sizeOf86⟩
instance : Cel Tryz.prog 87 1 := ⟨by kernel_rfl⟩
instance : Siz Tryz.prog 87 1 := ⟨Tryz.sizeOf87⟩
instance : Agg Tryz.prog 87 false := ⟨Tryz.isAgg87⟩
instance : Zer Tryz.prog 87 (.nilFunc) := ⟨Tryz.zeroValue87⟩
instance : Inf Tryz.prog 87 1 8 (.nilFunc) := ⟨inf_of (by kernel_rfl)⟩
instance : Cel Tryz.prog 88 1 := ⟨by kernel_rfl⟩
instance : Siz Tryz.prog 88 1 := ⟨Tryz.sizeOf88⟩
instance : Agg Tryz.prog 88 false := ⟨Tryz.isAgg88⟩
instance : Zer Tryz.prog 88 (.nilFunc) := ⟨Tryz.zeroValue88⟩
instance : Inf Tryz.prog 88 1 8 (.nilFunc) := ⟨inf_of (by kernel_rfl)⟩
instance : Cel Tryz.prog 89 1 := ⟨by kernel_rfl⟩
instance : Siz Tryz.prog 89 1 := ⟨Tryz.sizeOf89⟩
instance : Agg Tryz.prog 89 false := ⟨Tryz.isAgg89⟩
instance : Zer Tryz.prog 89 (.nilFunc) := ⟨Tryz.zeroValue89⟩
instance : Inf Tryz.prog 89 1 8 (.nilFunc) := ⟨inf_of (by kernel_rfl)⟩
instance : Cel Tryz.prog 90 1 := ⟨by kernel_rfl⟩
instance : Siz Tryz.prog 90 1 := ⟨Tryz.sizeOf90⟩
instance : Agg Tryz.prog 90 false := ⟨Tryz.isAgg90⟩
instance : Zer Tryz.prog 90 (.nilFunc) := ⟨Tryz.zeroValue90⟩
instance : Inf Tryz.prog 90 1 8 (.nilFunc) := ⟨inf_of (by kernel_rfl)⟩
instance : Cel Tryz.prog 91 1 := ⟨by kernel_rfl⟩
instance : Siz Tryz.prog 91 1 := ⟨Tryz.sizeOf91⟩
instance : Agg Tryz.prog 91 false := ⟨Tryz.isAgg91⟩
instance : Zer Tryz.prog 91 (.nilFunc) := ⟨Tryz.zeroValue91⟩
instance : Inf Tryz.prog 91 1 8 (.nilFunc) := ⟨inf_of (by kernel_rfl)⟩
instance : Cel Tryz.prog 92 1 := ⟨by kernel_rfl⟩
instance : Siz Tryz.prog 92 1 := ⟨Tryz.sizeOf92⟩
instance : Agg Tryz.prog 92 false := ⟨Tryz.isAgg92⟩
instance : Zer Tryz.prog 92 (.nilFunc) := ⟨Tryz.zeroValue92⟩
instance : Inf Tryz.prog 92 1 8 (.nilFunc) := ⟨inf_of (by kernel_rfl)⟩
instance : Cel Tryz.prog 93 1 := ⟨by kernel_rfl⟩
instance : Siz Tryz.prog 93 1 := ⟨Tryz.sizeOf93⟩
instance : Agg Tryz.prog 93 false := ⟨Tryz.isAgg93⟩
instance : Zer Tryz.prog 93 (.nilFunc) := ⟨Tryz.zeroValue93⟩
instance : Inf Tryz.prog 93 1 8 (.nilFunc) := ⟨inf_of (by kernel_rfl)⟩
instance : Cel Tryz.prog 94 1 := ⟨by kernel_rfl⟩
instance : Siz Tryz.prog 94 1 := ⟨Tryz.sizeOf94⟩
instance : Agg Tryz.prog 94 false := ⟨Tryz.isAgg94⟩
instance : Zer Tryz.prog 94 (.nilFunc) := ⟨Tryz.zeroValue94⟩
instance : Inf Tryz.prog 94 1 8 (.nilFunc) := ⟨inf_of (by kernel_rfl)⟩
instance : Cel Tryz.prog 95 1 := ⟨by kernel_rfl⟩
instance : Siz Tryz.prog 95 1 := ⟨Tryz.sizeOf95⟩
instance : Agg Tryz.prog 95 false := ⟨Tryz.isAgg95⟩
instance : Zer Tryz.prog 95 (.nilFunc) := ⟨Tryz.zeroValue95⟩
instance : Inf Tryz.prog 95 1 8 (.nilFunc) := ⟨inf_of (by kernel_rfl)⟩
instance : Cel Tryz.prog 96 1 := ⟨by kernel_rfl⟩
instance : Siz Tryz.prog 96 1 := ⟨Tryz.sizeOf96⟩
instance : Agg Tryz.prog 96 false := ⟨Tryz.isAgg96⟩
instance : Zer Tryz.prog 96 (.nilFunc) := ⟨Tryz.zeroValue96⟩
instance : Inf Tryz.prog 96 1 8 (.nilFunc) := ⟨inf_of (by kernel_rfl)⟩
instance : Cel Tryz.prog 97 1 := ⟨by kernel_rfl⟩
instance : Siz Tryz.prog 97 1 := ⟨Tryz.sizeOf97⟩
instance : Agg Tryz.prog 97 false := ⟨Tryz.isAgg97⟩
instance : Zer Tryz.prog 97 (.nilFunc) := ⟨Tryz.zeroValue97⟩
instance : Inf Tryz.prog 97 1 8 (.nilFunc) := ⟨inf_of (by kernel_rfl)⟩
instance : Cel Tryz.prog 98 1 := ⟨by kernel_rfl⟩
instance : Siz Tryz.prog 98 1 := ⟨Tryz.sizeOf98⟩
instance : Agg Tryz.prog 98 false := ⟨Tryz.isAgg98⟩
instance : Zer Tryz.prog 98 (.nilFunc) := ⟨Tryz.zeroValue98⟩
instance : Inf Tryz.prog 98 1 8 (.nilFunc) := ⟨inf_of (by kernel_rfl)⟩
instance : Cel Tryz.prog 99 1 := ⟨by kernel_rfl⟩
instance : Siz Tryz.prog 99 1 := ⟨Tryz.sizeOf99⟩
instance : Agg Tryz.prog 99 false := ⟨Tryz.isAgg99⟩
instance : Zer Tryz.prog 99 (.nilFunc) := ⟨Tryz.zeroValue99⟩
instance : Inf Tryz.prog 99 1 8 (.nilFunc) := ⟨inf_of (by kernel_rfl)⟩
instance : Cel Tryz.prog 100 1 := ⟨by kernel_rfl⟩
instance : Siz Tryz.prog 100 1 := ⟨Tryz.sizeOf100⟩
instance : Agg Tryz.prog 100 false := ⟨Tryz.isAgg100⟩
instance : Zer Tryz.prog 100 (.nilFunc) := ⟨Tryz.zeroValue100⟩
instance : Inf Tryz.prog 100 1 8 (.nilFunc) := ⟨inf_of (by kernel_rfl)⟩
instance : Cel Tryz.prog 101 1 := ⟨by kernel_rfl⟩
instance : Siz Tryz.prog 101 1 := ⟨Tryz.sizeOf101⟩
instance : Agg Tryz.prog 101 false := ⟨Tryz.isAgg101⟩
instance : Zer Tryz.prog 101 (.nilFunc) := ⟨Tryz.zeroValue101⟩
instance : Inf Tryz.prog 101 1 8 (.nilFunc) := ⟨inf_of (by kernel_rfl)⟩
instance : Cel Tryz.prog 102 1 := ⟨by kernel_rfl⟩
instance : Siz Tryz.prog 102 1 := ⟨Tryz.sizeOf102⟩
instance : Agg Tryz.prog 102 false := ⟨Tryz.isAgg102⟩
instance : Zer Tryz.prog 102 (.nilFunc) := ⟨Tryz.zeroValue102⟩
instance : Inf Tryz.prog 102 1 8 (.nilFunc) := ⟨inf_of (by kernel_rfl)⟩
instance : Cel Tryz.prog 103 1 := ⟨by kernel_rfl⟩
instance : Siz Tryz.prog 103 1 := ⟨Tryz.sizeOf103⟩
instance : Agg Tryz.prog 103 false := ⟨Tryz.isAgg103⟩
instance : Zer Tryz.prog 103 (.nilFunc) := ⟨Tryz.zeroValue103⟩
instance : Inf Tryz.prog 103 1 8 (.nilFunc) := ⟨inf_of (by kernel_rfl)⟩
instance : Cel Tryz.prog 104 1 := ⟨by kernel_rfl⟩
instance : Siz Tryz.prog 104 1 := ⟨Tryz.sizeOf104⟩
instance : Agg Tryz.prog 104 false := ⟨Tryz.isAgg104⟩
instance : Zer Tryz.prog 104 (.nilFunc) := ⟨Tryz.zeroValue104⟩
instance : Inf Tryz.prog 104 1 8 (.nilFunc) := ⟨inf_of (by kernel_rfl)⟩
instance : Cel Tryz.prog 105 1 := ⟨by kernel_rfl⟩
instance : Siz Tryz.prog 105 1 := ⟨Tryz.sizeOf105⟩
instance : Agg Tryz.prog 105 false := ⟨Tryz.isAgg105⟩
instance : Zer Tryz.prog 105 (.nilFunc) := ⟨Tryz.zeroValue105⟩
instance : Inf Tryz.prog 105 1 8 (.nilFunc) := ⟨inf_of (by kernel_rfl)⟩
instance : Cel Tryz.prog 106 1 := ⟨by kernel_rfl⟩
instance : Siz Tryz.prog 106 1 := ⟨Tryz.sizeOf106⟩
instance : Agg Tryz.prog 106 false := ⟨Tryz.isAgg106⟩
instance : Zer Tryz.prog 106 (.nilFunc) := ⟨Tryz.zeroValue106⟩
instance : Inf Tryz.prog 106 1 8 (.nilFunc) := ⟨inf_of (by kernel_rfl)⟩
instance : Cel Tryz.prog 107 1 := ⟨by kernel_rfl⟩
instance : Siz Tryz.prog 107 1 := ⟨Tryz.sizeOf107⟩
instance : Agg Tryz.prog 107 false := ⟨Tryz.isAgg107⟩
instance : Zer Tryz.prog 107 (.nilFunc) := ⟨Tryz.zeroValue107⟩
instance : Inf Tryz.prog 107 1 8 (.nilFunc) := ⟨inf_of (by kernel_rfl)⟩
instance : Cel Tryz.prog 108 1 := ⟨by kernel_rfl⟩
instance : Siz Tryz.prog 108 1 := ⟨Tryz.sizeOf108⟩
instance : Agg Tryz.prog 108 false := ⟨Tryz.isAgg108⟩
instance : Zer Tryz.prog 108 (.nilFunc) := ⟨Tryz.zeroValue108⟩
instance : Inf Tryz.prog 108 1 8 (.nilFunc) := ⟨inf_of (by kernel_rfl)⟩
instance : Und Tryz.prog 109 (.int .u64) := ⟨Tryz.underlying109⟩
instance : Cel Tryz.prog 109 1 := ⟨by kernel_rfl⟩
instance : Siz Tryz.prog 109 1 := ⟨Tryz.sizeOf109⟩
instance : Agg Tryz.prog 109 false := ⟨Tryz.isAgg109⟩
instance : Zer Tryz.prog 109 (.int .u64 0) := ⟨Tryz.zeroValue109⟩
instance : Inf Tryz.prog 109 1 8 (.int .u64 0) := ⟨inf_of (by kernel_rfl)⟩
instance : Cel Tryz.prog 110 1 := ⟨by kernel_rfl⟩
instance : Siz Tryz.prog 110 1 := ⟨Tryz.sizeOf110⟩
instance : Agg Tryz.prog 110 false := ⟨Tryz.isAgg110⟩
instance : Zer Tryz.prog 110 (.nilFunc) := ⟨Tryz.zeroValue110⟩
instance : Inf Tryz.prog 110 1 8 (.nilFunc) := ⟨inf_of (by kernel_rfl)⟩
instance : Cel Tryz.prog 111 1 := ⟨by kernel_rfl⟩
instance : Siz Tryz.prog 111 1 := ⟨Tryz.sizeOf111⟩
instance : Agg Tryz.prog 111 false := ⟨Tryz.isAgg111⟩
instance : Zer Tryz.prog 111 (.nilFunc) := ⟨Tryz.zeroValue111⟩
instance : Inf Tryz.prog 111 1 8 (.nilFunc) := ⟨inf_of (by kernel_rfl)⟩
instance : Cel Tryz.prog 112 1 := ⟨by kernel_rfl⟩
instance : Siz Tryz.prog 112 1 := ⟨Tryz.sizeOf112⟩
instance : Agg Tryz.prog 112 false := ⟨Tryz.isAgg112⟩
instance : Zer Tryz.prog 112 (.nilFunc) := ⟨Tryz.zeroValue112⟩
instance : Inf Tryz.prog 112 1 8 (.nilFunc) := ⟨inf_of (by kernel_rfl)⟩
instance : Cel Tryz.prog 113 1 := ⟨by kernel_rfl⟩
instance : Siz Tryz.prog 113 1 := ⟨Tryz.sizeOf113⟩
instance : Agg Tryz.prog 113 false := ⟨Tryz.isAgg113⟩
instance : Zer Tryz.prog 113 (.nilFunc) := ⟨Tryz.zeroValue113⟩
instance : Inf Tryz.prog 113 1 8 (.nilFunc) := ⟨inf_of (by kernel_rfl)⟩
instance : Und Tryz.prog 114 (.slice 2) := ⟨Tryz.underlying114⟩
instance : Cel Tryz.prog 114 1 := ⟨by kernel_rfl⟩
instance : Siz Tryz.prog 114 1 := ⟨Tryz.sizeOf114⟩
instance : Agg Tryz.prog 114 false := ⟨Tryz.isAgg114⟩
instance : Zer Tryz.prog 114 (.slice none 0 0) := ⟨Tryz.zeroValue114⟩
instance : Inf Tryz.prog 114 1 24 (.slice none 0 0) := ⟨inf_of (by kernel_rfl)⟩
instance : Cel Tryz.prog 115 1 := ⟨by kernel_rfl⟩
instance : Siz Tryz.prog 115 1 := ⟨Tryz.sizeOf115⟩
instance : Agg Tryz.prog 115 false := ⟨Tryz.isAgg115⟩
instance : Zer Tryz.prog 115 (.nilFunc) := ⟨Tryz.zeroValue115⟩
instance : Inf Tryz.prog 115 1 8 (.nilFunc) := ⟨inf_of (by kernel_rfl)⟩
instance : Cel Tryz.prog 116 1 := ⟨by kernel_rfl⟩
instance : Siz Tryz.prog 116 1 := ⟨Tryz.sizeOf116⟩
instance : Agg Tryz.prog 116 false := ⟨Tryz.isAgg116⟩
instance : Zer Tryz.prog 116 (.nilFunc) := ⟨Tryz.zeroValue116⟩
instance : Inf Tryz.prog 116 1 8 (.nilFunc) := ⟨inf_of (by kernel_rfl)⟩
instance : Cel Tryz.prog 117 1 := ⟨by kernel_rfl⟩
instance : Siz Tryz.prog 117 1 := ⟨Tryz.sizeOf117⟩
instance : Agg Tryz.prog 117 false := ⟨Tryz.isAgg117⟩
instance : Zer Tryz.prog 117 (.nilFunc) := ⟨Tryz.zeroValue117⟩
instance : Inf Tryz.prog 117 1 8 (.nilFunc) := ⟨inf_of (by kernel_rfl)⟩
instance : Cel Tryz.prog 118 1 := ⟨by kernel_rfl⟩
instance : Siz Tryz.prog 118 1 := ⟨Tryz.sizeOf118⟩
instance : Agg Tryz.prog 118 false := ⟨Tryz.isAgg118⟩
instance : Zer Tryz.prog 118 (.nilFunc) := ⟨Tryz.zeroValue118⟩
instance : Inf Tryz.prog 118 1 8 (.nilFunc) := ⟨inf_of (by kernel_rfl)⟩
instance : Cel Tryz.prog 119 1 := ⟨by kernel_rfl⟩
instance : Siz Tryz.prog 119 1 := ⟨Tryz.sizeOf119⟩
instance : Agg Tryz.prog 119 false := ⟨Tryz.isAgg119⟩
instance : Zer Tryz.prog 119 (.nilFunc) := ⟨Tryz.zeroValue119⟩
instance : Inf Tryz.prog 119 1 8 (.nilFunc) := ⟨inf_of (by kernel_rfl)⟩
instance : Cel Tryz.prog 120 1 := ⟨by kernel_rfl⟩
instance : Siz Tryz.prog 120 1 := ⟨Tryz.sizeOf120⟩
instance : Agg Tryz.prog 120 false := ⟨Tryz.isAgg120⟩
instance : Zer Tryz.prog 120 (.nilFunc) := ⟨Tryz.zeroValue120⟩
instance : Inf Tryz.prog 120 1 8 (.nilFunc) := ⟨inf_of (by kernel_rfl)⟩
instance : Cel Tryz.prog 121 1 := ⟨by kernel_rfl⟩
instance : Siz Tryz.prog 121 1 := ⟨Tryz.sizeOf121⟩
instance : Agg Tryz.prog 121 false := ⟨Tryz.isAgg121⟩
instance : Zer Tryz.prog 121 (.nilFunc) := ⟨Tryz.zeroValue121⟩
instance : Inf Tryz.prog 121 1 8 (.nilFunc) := ⟨inf_of (by kernel_rfl)⟩
instance : Cel Tryz.prog 122 1 := ⟨by kernel_rfl⟩
instance : Siz Tryz.prog 122 1 := ⟨Tryz.sizeOf122⟩
instance : Agg Tryz.prog 122 false := ⟨Tryz.isAgg122⟩
instance : Zer Tryz.prog 122 (.nilFunc) := ⟨Tryz.zeroValue122⟩
instance : Inf Tryz.prog 122 1 8 (.nilFunc) := ⟨inf_of (by kernel_rfl)⟩
instance : Cel Tryz.prog 123 1 := ⟨by kernel_rfl⟩
instance : Siz Tryz.prog 123 1 := ⟨Tryz.sizeOf123⟩
instance : Agg Tryz.prog 123 false := ⟨Tryz.isAgg123⟩
instance : Zer Tryz.prog 123 (.nilFunc) := ⟨Tryz.zeroValue123⟩
instance : Inf Tryz.prog 123 1 8 (.nilFunc) := ⟨inf_of (by kernel_rfl)⟩
instance : Cel Tryz.prog 124 1 := ⟨by kernel_rfl⟩
instance : Siz Tryz.prog 124 1 := ⟨Tryz.sizeOf124⟩
instance : Agg Tryz.prog 124 false := ⟨Tryz.isAgg124⟩
instance : Zer Tryz.prog 124 (.nilFunc) := ⟨Tryz.zeroValue124⟩
instance : Inf Tryz.prog 124 1 8 (.nilFunc) := ⟨inf_of (by kernel_rfl)⟩
instance : Cel Tryz.prog 125 1 := ⟨by kernel_rfl⟩
instance : Siz Tryz.prog 125 1 := ⟨Tryz.sizeOf125⟩
instance : Agg Tryz.prog 125 false := ⟨Tryz.isAgg125⟩
instance : Zer Tryz.prog 125 (.nilFunc) := ⟨Tryz.zeroValue125⟩
instance : Inf Tryz.prog 125 1 8 (.nilFunc) := ⟨inf_of (by kernel_rfl)⟩
instance : Und Tryz.prog 126 (.slice 132) := ⟨Tryz.underlying126⟩
instance : Cel Tryz.prog 126 1 := ⟨by kernel_rfl⟩
instance : Siz Tryz.prog 126 1 := ⟨Tryz.sizeOf126⟩
instance : Agg Tryz.prog 126 false := ⟨Tryz.isAgg126⟩
instance : Zer Tryz.prog 126 (.slice none 0 0) := ⟨Tryz.zeroValue126⟩
instance : Inf Tryz.prog 126 1 24 (.slice none 0 0) := ⟨inf_of (by kernel_rfl)⟩
instance : Cel Tryz.prog 127 1 := ⟨by kernel_rfl⟩
instance : Siz Tryz.prog 127 1 := ⟨Tryz.sizeOf127⟩
instance : Agg Tryz.prog 127 false := ⟨Tryz.isAgg127⟩
instance : Zer Tryz.prog 127 (.nilFunc) := ⟨Tryz.zeroValue127⟩
instance : Inf Tryz.prog 127 1 8 (.nilFunc) := ⟨inf_of (by kernel_rfl)⟩
instance : Cel Tryz.prog 128 1 := ⟨by kernel_rfl⟩
instance : Siz Tryz.prog 128 1 := ⟨Tryz.sizeOf128⟩
instance : Agg Tryz.prog 128 false := ⟨Tryz.isAgg128⟩
instance : Zer Tryz.prog 128 (.nilFunc) := ⟨Tryz.zeroValue128⟩
instance : Inf Tryz.prog 128 1 8 (.nilFunc) := ⟨inf_of (by kernel_rfl)⟩
instance : Cel Tryz.prog 129 1 := ⟨by kernel_rfl⟩
instance : Siz Tryz.prog 129 1 := ⟨Tryz.sizeOf129⟩
instance : Agg Tryz.prog 129 false := ⟨Tryz.isAgg129⟩
instance : Zer Tryz.prog 129 (.nilFunc) := ⟨Tryz.zeroValue129⟩
instance : Inf Tryz.prog 129 1 8 (.nilFunc) := ⟨inf_of (by kernel_rfl)⟩
instance : Cel Tryz.prog 130 1 := ⟨by kernel_rfl⟩
instance : Siz Tryz.prog 130 1 := ⟨Tryz.sizeOf130⟩
instance : Agg Tryz.prog 130 false := ⟨Tryz.isAgg130⟩
instance : Zer Tryz.prog 130 (.nilFunc) := ⟨Tryz.zeroValue130⟩
instance : Inf Tryz.prog 130 1 8 (.nilFunc) := ⟨inf_of (by kernel_rfl)⟩
instance : Cel Tryz.prog 131 5 := ⟨by kernel_rfl⟩
instance : Siz Tryz.prog 131 5 := ⟨Tryz.sizeOf131⟩
instance : Agg Tryz.prog 131 true := ⟨Tryz.isAgg131⟩
instance : Zer Tryz.prog 131 (.agg #[.bool false, .int .i64 0, .int .i64 0, .int .i64 0, .string ⟨#[]⟩]) := ⟨Tryz.zeroValue131⟩
instance : Inf Tryz.prog 131 5 48 (.agg #[.bool false, .int .i64 0, .int .i64 0, .int .i64 0, .string ⟨#[]⟩]) := ⟨inf_of (by kernel_rfl)⟩
instance : Plc Tryz.prog 131 [(0, 1), (1, 1), (2, 3)] := ⟨⟨_, Tryz.runUnderlying131, fun w => by simp [Tryz.sizeOf2, Tryz.sizeOf39, Tryz.sizeOf4]⟩⟩
instance : Fld Tryz.prog 131 0 0 := ⟨fun w a => by simp [Instr.fieldAt, Instr.sureAddr, fieldPlace, Tryz.runUnderlying131, Tryz.sizeOf4]⟩
instance : Fld Tryz.prog 131 1 1 := ⟨fun w a => by simp [Instr.fieldAt, Instr.sureAddr, fieldPlace, Tryz.runUnderlying131, Tryz.sizeOf2]⟩
instance : Fld Tryz.prog 131 2 2 := ⟨fun w a => by simp [Instr.fieldAt, Instr.sureAddr, fieldPlace, Tryz.runUnderlying131, Tryz.sizeOf39]⟩
instance : Cel Tryz.prog 132 5 := ⟨by kernel_rfl⟩
instance : Siz Tryz.prog 132 5 := ⟨Tryz.sizeOf132⟩
instance : Agg Tryz.prog 132 true := ⟨Tryz.isAgg132⟩
instance : Zer Tryz.prog 132 (.agg #[.bool false, .int .i64 0, .int .i64 0, .int .i64 0, .string ⟨#[]⟩]) := ⟨Tryz.zeroValue132⟩
instance : Inf Tryz.prog 132 5 48 (.agg #[.bool false, .int .i64 0, .int .i64 0, .int .i64 0, .string ⟨#[]⟩]) := ⟨inf_of (by kernel_rfl)⟩
instance : Plc Tryz.prog 132 [(0, 1), (1, 1), (2, 3)] := ⟨⟨_, Tryz.runUnderlying132, fun w => by simp [Tryz.sizeOf2, Tryz.sizeOf39, Tryz.sizeOf4]⟩⟩
instance : Fld Tryz.prog 132 0 0 := ⟨fun w a => by simp [Instr.fieldAt, Instr.sureAddr, fieldPlace, Tryz.runUnderlying132, Tryz.sizeOf4]⟩
instance : Fld Tryz.prog 132 1 1 := ⟨fun w a => by simp [Instr.fieldAt, Instr.sureAddr, fieldPlace, Tryz.runUnderlying132, Tryz.sizeOf2]⟩
instance : Fld Tryz.prog 132 2 2 := ⟨fun w a => by simp [Instr.fieldAt, Instr.sureAddr, fieldPlace, Tryz.runUnderlying132, Tryz.sizeOf39]⟩
instance : Cel Tryz.prog 133 1 := ⟨by kernel_rfl⟩
instance : Siz Tryz.prog 133 1 := ⟨Tryz.sizeOf133⟩
instance : Agg Tryz.prog 133 false := ⟨Tryz.isAgg133⟩
instance : Zer Tryz.prog 133 (.nilFunc) := ⟨Tryz.zeroValue133⟩
instance : Inf Tryz.prog 133 1 8 (.nilFunc) := ⟨inf_of (by kernel_rfl)⟩
instance : Cel Tryz.prog 134 1 := ⟨by kernel_rfl⟩
instance : Siz Tryz.prog 134 1 := ⟨Tryz.sizeOf134⟩
instance : Agg Tryz.prog 134 false := ⟨Tryz.isAgg134⟩
instance : Zer Tryz.prog 134 (.nilFunc) := ⟨Tryz.zeroValue134⟩
instance : Inf Tryz.prog 134 1 8 (.nilFunc) := ⟨inf_of (by kernel_rfl)⟩
instance : Und Tryz.prog 135 (.slice 3) := ⟨Tryz.underlying135⟩
instance : Cel Tryz.prog 135 1 := ⟨by kernel_rfl⟩
instance : Siz Tryz.prog 135 1 := ⟨Tryz.sizeOf135⟩
instance : Agg Tryz.prog 135 false := ⟨Tryz.isAgg135⟩
instance : Zer Tryz.prog 135 (.slice none 0 0) := ⟨Tryz.zeroValue135⟩
instance : Inf Tryz.prog 135 1 24 (.slice none 0 0) := ⟨inf_of (by kernel_rfl)⟩
instance : Cel Tryz.prog 136 1 := ⟨by kernel_rfl⟩
instance : Siz Tryz.prog 136 1 := ⟨Tryz.sizeOf136⟩
instance : Agg Tryz.prog 136 false := ⟨Tryz.isAgg136⟩
instance : Zer Tryz.prog 136 (.nilFunc) := ⟨Tryz.zeroValue136⟩
instance : Inf Tryz.prog 136 1 8 (.nilFunc) := ⟨inf_of (by kernel_rfl)⟩
instance : Cel Tryz.prog 137 1 := ⟨by kernel_rfl⟩
instance : Siz Tryz.prog 137 1 := ⟨Tryz.sizeOf137⟩
instance : Agg Tryz.prog 137 false := ⟨Tryz.isAgg137⟩
instance : Zer Tryz.prog 137 (.nilFunc) := ⟨Tryz.zeroValue137⟩
instance : Inf Tryz.prog 137 1 8 (.nilFunc) := ⟨inf_of (by kernel_rfl)⟩
instance : Cel Tryz.prog 138 1 := ⟨by kernel_rfl⟩
instance : Siz Tryz.prog 138 1 := ⟨Tryz.sizeOf138⟩
instance : Agg Tryz.prog 138 false := ⟨Tryz.isAgg138⟩
instance : Zer Tryz.prog 138 (.nilFunc) := ⟨Tryz.zeroValue138⟩
instance : Inf Tryz.prog 138 1 8 (.nilFunc) := ⟨inf_of (by kernel_rfl)⟩
instance : Cel Tryz.prog 139 1 := ⟨by kernel_rfl⟩
instance : Siz Tryz.prog 139 1 := ⟨Tryz.sizeOf139⟩
instance : Agg Tryz.prog 139 false := ⟨Tryz.isAgg139⟩
instance : Zer Tryz.prog 139 (.nilFunc) := ⟨Tryz.zeroValue139⟩
instance : Inf Tryz.prog 139 1 8 (.nilFunc) := ⟨inf_of (by kernel_rfl)⟩
instance : Cel Tryz.prog 140 1 := ⟨by kernel_rfl⟩
instance : Siz Tryz.prog 140 1 := ⟨Tryz.sizeOf140⟩
instance : Agg Tryz.prog 140 false := ⟨Tryz.isAgg140⟩
instance : Zer Tryz.prog 140 (.nilFunc) := ⟨Tryz.zeroValue140⟩
instance : Inf Tryz.prog 140 1 8 (.nilFunc) := ⟨inf_of (by kernel_rfl)⟩
instance : Cel Tryz.prog 141 1 := ⟨by kernel_rfl⟩
instance : Siz Tryz.prog 141 1 := ⟨Tryz.sizeOf141⟩
instance : Agg Tryz.prog 141 false := ⟨Tryz.isAgg141⟩
instance : Zer Tryz.prog 141 (.nilFunc) := ⟨Tryz.zeroValue141⟩
instance : Inf Tryz.prog 141 1 8 (.nilFunc) := ⟨inf_of (by kernel_rfl)⟩
instance : Cel Tryz.prog 142 1 := ⟨by kernel_rfl⟩
instance : Siz Tryz.prog 142 1 := ⟨Tryz.sizeOf142⟩
instance : Agg Tryz.prog 142 false := ⟨Tryz.isAgg142⟩
instance : Zer Tryz.prog 142 (.nilFunc) := ⟨Tryz.zeroValue142⟩
instance : Inf Tryz.prog 142 1 8 (.nilFunc) := ⟨inf_of (by kernel_rfl)⟩
instance : Und Tryz.prog 143 (.int .i64) := ⟨Tryz.underlying143⟩
instance : Cel Tryz.prog 143 1 := ⟨by kernel_rfl⟩
instance : Siz Tryz.prog 143 1 := ⟨Tryz.sizeOf143⟩
instance : Agg Tryz.prog 143 false := ⟨Tryz.isAgg143⟩
instance : Zer Tryz.prog 143 (.int .i64 0) := ⟨Tryz.zeroValue143⟩
instance : Inf Tryz.prog 143 1 8 (.int .i64 0) := ⟨inf_of (by kernel_rfl)⟩
instance : Cel Tryz.prog 144 1 := ⟨by kernel_rfl⟩
instance : Siz Tryz.prog 144 1 := ⟨Tryz.sizeOf144⟩
instance : Cel Tryz.prog 145 1 := ⟨by kernel_rfl⟩
instance : Siz Tryz.prog 145 1 := ⟨Tryz.sizeOf145⟩
instance : Agg Tryz.prog 145 false := ⟨Tryz.isAgg145⟩
instance : Zer Tryz.prog 145 (.nilFunc) := ⟨Tryz.zeroValue145⟩
instance : Inf Tryz.prog 145 1 8 (.nilFunc) := ⟨inf_of (by kernel_rfl)⟩
instance : Cel Tryz.prog 146 1 := ⟨by kernel_rfl⟩
instance : Siz Tryz.prog 146 1 := ⟨Tryz.sizeOf146⟩
instance : Agg Tryz.prog 146 false := ⟨Tryz.isAgg146⟩
instance : Zer Tryz.prog 146 (.nilFunc) := ⟨Tryz.zeroValue146⟩
instance : Inf Tryz.prog 146 1 8 (.nilFunc) := ⟨inf_of (by kernel_rfl)⟩
instance : Cel Tryz.prog 147 1 := ⟨by kernel_rfl⟩
instance : Siz Tryz.prog 147 1 := ⟨Tryz.sizeOf147⟩
instance : Agg Tryz.prog 147 false := ⟨Tryz.isAgg147⟩
instance : Zer Tryz.prog 147 (.nilFunc) := ⟨Tryz.zeroValue147⟩
instance : Inf Tryz.prog 147 1 8 (.nilFunc) := ⟨inf_of (by kernel_rfl)⟩
instance : Cel Tryz.prog 148 1 := ⟨by kernel_rfl⟩
instance : Siz Tryz.prog 148 1 := ⟨Tryz.sizeOf148⟩
instance : Agg Tryz.prog 148 false := ⟨Tryz.isAgg148⟩
instance : Zer Tryz.prog 148 (.nilFunc) := ⟨Tryz.zeroValue148⟩
instance : Inf Tryz.prog 148 1 8 (.nilFunc) := ⟨inf_of (by kernel_rfl)⟩
instance : Cel Tryz.prog 149 1 := ⟨by kernel_rfl⟩
instance : Siz Tryz.prog 149 1 := ⟨Tryz.sizeOf149⟩
instance : Agg Tryz.prog 149 false := ⟨Tryz.isAgg149⟩
instance : Zer Tryz.prog 149 (.nilFunc) := ⟨Tryz.zeroValue149⟩
instance : Inf Tryz.prog 149 1 8 (.nilFunc) := ⟨inf_of (by kernel_rfl)⟩
instance : Und Tryz.prog 150 (.int .u32) := ⟨Tryz.underlying150⟩
instance : Cel Tryz.prog 150 1 := ⟨by kernel_rfl⟩
instance : Siz Tryz.prog 150 1 := ⟨Tryz.sizeOf150⟩
instance : Agg Tryz.prog 150 false := ⟨Tryz.isAgg150⟩
instance : Zer Tryz.prog 150 (.int .u32 0) := ⟨Tryz.zeroValue150⟩
instance : Inf Tryz.prog 150 1 4 (.int .u32 0) := ⟨inf_of (by kernel_rfl)⟩
instance : Cel Tryz.prog 151 1 := ⟨by kernel_rfl⟩
instance : Siz Tryz.prog 151 1 := ⟨Tryz.sizeOf151⟩
instance : Agg Tryz.prog 151 false := ⟨Tryz.isAgg151⟩
instance : Zer Tryz.prog 151 (.nilFunc) := ⟨Tryz.zeroValue151⟩
instance : Inf Tryz.prog 151 1 8 (.nilFunc) := ⟨inf_of (by kernel_rfl)⟩
instance : Und Tryz.prog 152 (.int .u64) := ⟨Tryz.underlying152⟩
instance : Cel Tryz.prog 152 1 := ⟨by kernel_rfl⟩
instance : Siz Tryz.prog 152 1 := ⟨Tryz.sizeOf152⟩
instance : Agg Tryz.prog 152 false := ⟨Tryz.isAgg152⟩
instance : Zer Tryz.prog 152 (.int .u64 0) := ⟨Tryz.zeroValue152⟩
instance : Inf Tryz.prog 152 1 8 (.int .u64 0) := ⟨inf_of (by kernel_rfl)⟩
instance : Cel Tryz.prog 153 1 := ⟨by kernel_rfl⟩
instance : Siz Tryz.prog 153 1 := ⟨Tryz.sizeOf153⟩
instance : Agg Tryz.prog 153 false := ⟨Tryz.isAgg153⟩
instance : Zer Tryz.prog 153 (.nilFunc) := ⟨Tryz.zeroValue153⟩
instance : Inf Tryz.prog 153 1 8 (.nilFunc) := ⟨inf_of (by kernel_rfl)⟩
instance : Und Tryz.prog 154 (.array 3 132) := ⟨Tryz.underlying154⟩
instance : Cel Tryz.prog 154 15 := ⟨by kernel_rfl⟩
instance : Siz Tryz.prog 154 15 := ⟨Tryz.sizeOf154⟩
instance : Agg Tryz.prog 154 true := ⟨Tryz.isAgg154⟩
instance : Zer Tryz.prog 154 (.agg #[.bool false, .int .i64 0, .int .i64 0, .int .i64 0, .string ⟨#[]⟩, .bool false, .int .i64 0, .int .i64 0, .int .i64 0, .string ⟨#[]⟩, .bool false, .int .i64 0, .int .i64 0, .int .i64 0, .string ⟨#[]⟩]) := ⟨Tryz.zeroValue154⟩
instance : Inf Tryz.prog 154 15 144 (.agg #[.bool false, .int .i64 0, .int .i64 0, .int .i64 0, .string ⟨#[]⟩, .bool false, .int .i64 0, .int .i64 0, .int .i64 0, .string ⟨#[]⟩, .bool false, .int .i64 0, .int .i64 0, .int .i64 0, .string ⟨#[]⟩]) := ⟨inf_of (by kernel_rfl)⟩
instance : Cel Tryz.prog 155 1 := ⟨by kernel_rfl⟩
instance : Siz Tryz.prog 155 1 := ⟨Tryz.sizeOf155⟩
instance : Agg Tryz.prog 155 false := ⟨Tryz.isAgg155⟩
instance : Zer Tryz.prog 155 (.nilFunc) := ⟨Tryz.zeroValue155⟩
instance : Inf Tryz.prog 155 1 8 (.nilFunc) := ⟨inf_of (by kernel_rfl)⟩
instance : Cel Tryz.prog 156 1 := ⟨by kernel_rfl⟩
instance : Siz Tryz.prog 156 1 := ⟨Tryz.sizeOf156⟩
instance : Agg Tryz.prog 156 false := ⟨Tryz.isAgg156⟩
instance : Zer Tryz.prog 156 (.nilFunc) := ⟨Tryz.zeroValue156⟩
instance : Inf Tryz.prog 156 1 8 (.nilFunc) := ⟨inf_of (by kernel_rfl)⟩
instance : Cel Tryz.prog 157 1 := ⟨by kernel_rfl⟩
instance : Siz Tryz.prog 157 1 := ⟨Tryz.sizeOf157⟩
instance : Agg Tryz.prog 157 false := ⟨Tryz.isAgg157⟩
instance : Zer Tryz.prog 157 (.nilFunc) := ⟨Tryz.zeroValue157⟩
instance : Inf Tryz.prog 157 1 8 (.nilFunc) := ⟨inf_of (by kernel_rfl)⟩
instance : Cel Tryz.prog 158 1 := ⟨by kernel_rfl⟩
instance : Siz Tryz.prog 158 1 := ⟨Tryz.sizeOf158⟩
instance : Agg Tryz.prog 158 false := ⟨Tryz.isAgg158⟩
instance : Zer Tryz.prog 158 (.nilFunc) := ⟨Tryz.zeroValue158⟩
instance : Inf Tryz.prog 158 1 8 (.nilFunc) := ⟨inf_of (by kernel_rfl)⟩
instance : Cel Tryz.prog 159 1 := ⟨by kernel_rfl⟩
instance : Siz Tryz.prog 159 1 := ⟨Tryz.sizeOf159⟩
instance : Agg Tryz.prog 159 false := ⟨Tryz.isAgg159⟩
instance : Zer Tryz.prog 159 (.nilFunc) := ⟨Tryz.zeroValue159⟩
instance : Inf Tryz.prog 159 1 8 (.nilFunc) := ⟨inf_of (by kernel_rfl)⟩
instance : Cel Tryz.prog 160 1 := ⟨by kernel_rfl⟩
instance : Siz Tryz.prog 160 1 := ⟨Tryz.sizeOf160⟩
instance : Agg Tryz.prog 160 false := ⟨Tryz.isAgg160⟩
instance : Zer Tryz.prog 160 (.nilFunc) := ⟨Tryz.zeroValue160⟩
instance : Inf Tryz.prog 160 1 8 (.nilFunc) := ⟨inf_of (by kernel_rfl)⟩
instance : Und Tryz.prog 161 (.slice 40) := ⟨Tryz.underlying161⟩
instance : Cel Tryz.prog 161 1 := ⟨by kernel_rfl⟩
instance : Siz Tryz.prog 161 1 := ⟨Tryz.sizeOf161⟩
instance : Agg Tryz.prog 161 false := ⟨Tryz.isAgg161⟩
instance : Zer Tryz.prog 161 (.slice none 0 0) := ⟨Tryz.zeroValue161⟩
instance : Inf Tryz.prog 161 1 24 (.slice none 0 0) := ⟨inf_of (by kernel_rfl)⟩
instance : Cel Tryz.prog 162 1 := ⟨by kernel_rfl⟩
instance : Siz Tryz.prog 162 1 := ⟨Tryz.sizeOf162⟩
instance : Agg Tryz.prog 162 false := ⟨Tryz.isAgg162⟩
instance : Zer Tryz.prog 162 (.nilFunc) := ⟨Tryz.zeroValue162⟩
instance : Inf Tryz.prog 162 1 8 (.nilFunc) := ⟨inf_of (by kernel_rfl)⟩
instance : Und Tryz.prog 163 (.int .u64) := ⟨Tryz.underlying163⟩
instance : Cel Tryz.prog 163 1 := ⟨by kernel_rfl⟩
instance : Siz Tryz.prog 163 1 := ⟨Tryz.sizeOf163⟩
instance : Agg Tryz.prog 163 false := ⟨Tryz.isAgg163⟩
instance : Zer Tryz.prog 163 (.int .u64 0) := ⟨Tryz.zeroValue163⟩
instance : Inf Tryz.prog 163 1 8 (.int .u64 0) := ⟨inf_of (by kernel_rfl)⟩
instance : Cel Tryz.prog 164 1 := ⟨by kernel_rfl⟩
instance : Siz Tryz.prog 164 1 := ⟨Tryz.sizeOf164⟩
instance : Agg Tryz.prog 164 false := ⟨Tryz.isAgg164⟩
instance : Zer Tryz.prog 164 (.nilFunc) := ⟨Tryz.zeroValue164⟩
instance : Inf Tryz.prog 164 1 8 (.nilFunc) := ⟨inf_of (by kernel_rfl)⟩
instance : Cel Tryz.prog 165 1 := ⟨by kernel_rfl⟩
instance : Siz Tryz.prog 165 1 := ⟨Tryz.sizeOf165⟩
instance : Agg Tryz.prog 165 false := ⟨Tryz.isAgg165⟩
instance : Zer Tryz.prog 165 (.nilFunc) := ⟨Tryz.zeroValue165⟩
instance : Inf Tryz.prog 165 1 8 (.nilFunc) := ⟨inf_of (by kernel_rfl)⟩
instance : Cel Tryz.prog 166 1 := ⟨by kernel_rfl⟩
instance : Siz Tryz.prog 166 1 := ⟨Tryz.sizeOf166⟩
instance : Agg Tryz.prog 166 false := ⟨Tryz.isAgg166⟩
instance : Zer Tryz.prog 166 (.nilFunc) := ⟨Tryz.zeroValue166⟩
instance : Inf Tryz.prog 166 1 8 (.nilFunc) := ⟨inf_of (by kernel_rfl)⟩
instance : Und Tryz.prog 167 (.pointer 3) := ⟨Tryz.underlying167⟩
instance : Cel Tryz.prog 167 1 := ⟨by kernel_rfl⟩
instance : Siz Tryz.prog 167 1 := ⟨Tryz.sizeOf167⟩
instance : Agg Tryz.prog 167 false := ⟨Tryz.isAgg167⟩
instance : Zer Tryz.prog 167 (.pointer none) := ⟨Tryz.zeroValue167⟩
instance : Inf Tryz.prog 167 1 8 (.pointer none) := ⟨inf_of (by kernel_rfl)⟩
instance : Cel Tryz.prog 168 1 := ⟨by kernel_rfl⟩
instance : Siz Tryz.prog 168 1 := ⟨Tryz.sizeOf168⟩
instance : Agg Tryz.prog 168 false := ⟨Tryz.isAgg168⟩
instance : Zer Tryz.prog 168 (.nilFunc) := ⟨Tryz.zeroValue168⟩
instance : Inf Tryz.prog 168 1 8 (.nilFunc) := ⟨inf_of (by kernel_rfl)⟩
instance : Cel Tryz.prog 169 1 := ⟨by kernel_rfl⟩
instance : Siz Tryz.prog 169 1 := ⟨Tryz.sizeOf169⟩
instance : Agg Tryz.prog 169 false := ⟨Tryz.isAgg169⟩
instance : Zer Tryz.prog 169 (.nilFunc) := ⟨Tryz.zeroValue169⟩
instance : Inf Tryz.prog 169 1 8 (.nilFunc) := ⟨inf_of (by kernel_rfl)⟩
instance : Cel Tryz.prog 170 1 := ⟨by kernel_rfl⟩
instance : Siz Tryz.prog 170 1 := ⟨Tryz.sizeOf170⟩
instance : Agg Tryz.prog 170 false := ⟨Tryz.isAgg170⟩
instance : Zer Tryz.prog 170 (.nilFunc) := ⟨Tryz.zeroValue170⟩
instance : Inf Tryz.prog 170 1 8 (.nilFunc) := ⟨inf_of (by kernel_rfl)⟩
instance : Und Tryz.prog 171 (.pointer 163) := ⟨Tryz.underlying171⟩
instance : Cel Tryz.prog 171 1 := ⟨by kernel_rfl⟩
instance : Siz Tryz.prog 171 1 := ⟨Tryz.sizeOf171⟩
instance : Agg Tryz.prog 171 false := ⟨Tryz.isAgg171⟩
instance : Zer Tryz.prog 171 (.pointer none) := ⟨Tryz.zeroValue171⟩
instance : Inf Tryz.prog 171 1 8 (.pointer none) := ⟨inf_of (by kernel_rfl)⟩
instance : Cel Tryz.prog 172 1 := ⟨by kernel_rfl⟩
instance : Siz Tryz.prog 172 1 := ⟨Tryz.sizeOf172⟩
instance : Cel Tryz.prog 173 1 := ⟨by kernel_rfl⟩
instance : Siz Tryz.prog 173 1 := ⟨Tryz.sizeOf173⟩
instance : Agg Tryz.prog 173 false := ⟨Tryz.isAgg173⟩
instance : Zer Tryz.prog 173 (.nilFunc) := ⟨Tryz.zeroValue173⟩
instance : Inf Tryz.prog 173 1 8 (.nilFunc) := ⟨inf_of (by kernel_rfl)⟩
instance : Und Tryz.prog 174 (.slice 5) := ⟨Tryz.underlying174⟩
instance : Cel Tryz.prog 174 1 := ⟨by kernel_rfl⟩
instance : Siz Tryz.prog 174 1 := ⟨Tryz.sizeOf174⟩
instance : Agg Tryz.prog 174 false := ⟨Tryz.isAgg174⟩
instance : Zer Tryz.prog 174 (.slice none 0 0) := ⟨Tryz.zeroValue174⟩
instance : Inf Tryz.prog 174 1 24 (.slice none 0 0) := ⟨inf_of (by kernel_rfl)⟩
instance : Cel Tryz.prog 175 1 := ⟨by kernel_rfl⟩
instance : Siz Tryz.prog 175 1 := ⟨Tryz.sizeOf175⟩
instance : Agg Tryz.prog 175 false := ⟨Tryz.isAgg175⟩
instance : Zer Tryz.prog 175 (.nilFunc) := ⟨Tryz.zeroValue175⟩
instance : Inf Tryz.prog 175 1 8 (.nilFunc) := ⟨inf_of (by kernel_rfl)⟩
instance : Cel Tryz.prog 176 1 := ⟨by kernel_rfl⟩
instance : Siz Tryz.prog 176 1 := ⟨Tryz.sizeOf176⟩
instance : Agg Tryz.prog 176 false := ⟨Tryz.isAgg176⟩
instance : Zer Tryz.prog 176 (.nilFunc) := ⟨Tryz.zeroValue176⟩
instance : Inf Tryz.prog 176 1 8 (.nilFunc) := ⟨inf_of (by kernel_rfl)⟩
instance : Cel Tryz.prog 177 1 := ⟨by kernel_rfl⟩
instance : Siz Tryz.prog 177 1 := ⟨Tryz.sizeOf177⟩
instance : Agg Tryz.prog 177 false := ⟨Tryz.isAgg177⟩
instance : Zer Tryz.prog 177 (.nilFunc) := ⟨Tryz.zeroValue177⟩
instance : Inf Tryz.prog 177 1 8 (.nilFunc) := ⟨inf_of (by kernel_rfl)⟩
instance : Cel Tryz.prog 178 1 := ⟨by kernel_rfl⟩
instance : Siz Tryz.prog 178 1 := ⟨Tryz.sizeOf178⟩
instance : Agg Tryz.prog 178 false := ⟨Tryz.isAgg178⟩
instance : Zer Tryz.prog 178 (.nilFunc) := ⟨Tryz.zeroValue178⟩
instance : Inf Tryz.prog 178 1 8 (.nilFunc) := ⟨inf_of (by kernel_rfl)⟩
instance : Cel Tryz.prog 179 1 := ⟨by kernel_rfl⟩
instance : Siz Tryz.prog 179 1 := ⟨Tryz.sizeOf179⟩
instance : Agg Tryz.prog 179 false := ⟨Tryz.isAgg179⟩
instance : Zer Tryz.prog 179 (.nilFunc) := ⟨Tryz.zeroValue179⟩
instance : Inf Tryz.prog 179 1 8 (.nilFunc) := ⟨inf_of (by kernel_rfl)⟩
instance : Cel Tryz.prog 180 1 := ⟨by kernel_rfl⟩
instance : Siz Tryz.prog 180 1 := ⟨Tryz.sizeOf180⟩
instance : Agg Tryz.prog 180 false := ⟨Tryz.isAgg180⟩
instance : Zer Tryz.prog 180 (.nilFunc) := ⟨Tryz.zeroValue180⟩
instance : Inf Tryz.prog 180 1 8 (.nilFunc) := ⟨inf_of (by kernel_rfl)⟩
instance : Cel Tryz.prog 181 1 := ⟨by kernel_rfl⟩
instance : Siz Tryz.prog 181 1 := ⟨Tryz.sizeOf181⟩
instance : Agg Tryz.prog 181 false := ⟨Tryz.isAgg181⟩
instance : Zer Tryz.prog 181 (.nilFunc) := ⟨Tryz.zeroValue181⟩
instance : Inf Tryz.prog 181 1 8 (.nilFunc) := ⟨inf_of (by kernel_rfl)⟩
instance : Cel Tryz.prog 182 1 := ⟨by kernel_rfl⟩
instance : Siz Tryz.prog 182 1 := ⟨Tryz.sizeOf182⟩
instance : Agg Tryz.prog 182 false := ⟨Tryz.isAgg182⟩
instance : Zer Tryz.prog 182 (.nilFunc) := ⟨Tryz.zeroValue182⟩
instance : Inf Tryz.prog 182 1 8 (.nilFunc) := ⟨inf_of (by kernel_rfl)⟩
instance : Cel Tryz.prog 183 1 := ⟨by kernel_rfl⟩
instance : Siz Tryz.prog 183 1 := ⟨Tryz.sizeOf183⟩
instance : Agg Tryz.prog 183 false := ⟨Tryz.isAgg183⟩
instance : Zer Tryz.prog 183 (.nilFunc) := ⟨Tryz.zeroValue183⟩
instance : Inf Tryz.prog 183 1 8 (.nilFunc) := ⟨inf_of (by kernel_rfl)⟩
instance : Cel Tryz.prog 184 4 := ⟨by kernel_rfl⟩
instance : Siz Tryz.prog 184 4 := ⟨Tryz.sizeOf184⟩
instance : Agg Tryz.prog 184 true := ⟨Tryz.isAgg184⟩
instance : Zer Tryz.prog 184 (.agg #[.pointer none, .pointer none, .pointer none, .string ⟨#[]⟩]) := ⟨Tryz.zeroValue184⟩
instance : Inf Tryz.prog 184 4 40 (.agg #[.pointer none, .pointer none, .pointer none, .string ⟨#[]⟩]) := ⟨inf_of (by kernel_rfl)⟩
instance : Plc Tryz.prog 184 [(0, 1), (1, 1), (2, 1), (3, 1)] := ⟨⟨_, Tryz.runUnderlying184, fun w => by simp [Tryz.sizeOf17, Tryz.sizeOf9]⟩⟩
instance : Fld Tryz.prog 184 0 0 := ⟨fun w a => by simp [Instr.fieldAt, Instr.sureAddr, fieldPlace, Tryz.runUnderlying184, Tryz.sizeOf17]⟩
instance : Fld Tryz.prog 184 1 1 := ⟨fun w a => by simp [Instr.fieldAt, Instr.sureAddr, fieldPlace, Tryz.runUnderlying184, Tryz.sizeOf17]⟩
instance : Fld Tryz.prog 184 2 2 := ⟨fun w a => by simp [Instr.fieldAt, Instr.sureAddr, fieldPlace, Tryz.runUnderlying184, Tryz.sizeOf17]⟩
instance : Fld Tryz.prog 184 3 3 := ⟨fun w a => by simp [Instr.fieldAt, Instr.sureAddr, fieldPlace, Tryz.runUnderlying184, Tryz.sizeOf9]⟩
instance : Cel Tryz.prog 185 4 := ⟨by kernel_rfl⟩
instance : Siz Tryz.prog 185 4 := ⟨Tryz.sizeOf185⟩
instance : Agg Tryz.prog 185 true := ⟨Tryz.isAgg185⟩
instance : Zer Tryz.prog 185 (.agg #[.pointer none, .pointer none, .pointer none, .string ⟨#[]⟩]) := ⟨Tryz.zeroValue185⟩
instance : Inf Tryz.prog 185 4 40 (.agg #[.pointer none, .pointer none, .pointer none, .string ⟨#[]⟩]) := ⟨inf_of (by kernel_rfl)⟩
instance : Plc Tryz.prog 185 [(0, 1), (1, 1), (2, 1), (3, 1)] := ⟨⟨_, Tryz.runUnderlying185, fun w => by simp [Tryz.sizeOf17, Tryz.sizeOf9]⟩⟩
instance : Fld Tryz.prog 185 0 0 := ⟨fun w a => by simp [Instr.fieldAt, Instr.sureAddr, fieldPlace, Tryz.runUnderlying185, Tryz.sizeOf17]⟩
instance : Fld Tryz.prog 185 1 1 := ⟨fun w a => by simp [Instr.fieldAt, Instr.sureAddr, fieldPlace, Tryz.runUnderlying185, Tryz.sizeOf17]⟩
instance : Fld Tryz.prog 185 2 2 := ⟨fun w a => by simp [Instr.fieldAt, Instr.sureAddr, fieldPlace, Tryz.runUnderlying185, Tryz.sizeOf17]⟩
instance : Fld Tryz.prog 185 3 3 := ⟨fun w a => by simp [Instr.fieldAt, Instr.sureAddr, fieldPlace, Tryz.runUnderlying185, Tryz.sizeOf9]⟩
instance : Und Tryz.prog 186 (.array 0 16) := ⟨Tryz.underlying186⟩
instance : Cel Tryz.prog 186 0 := ⟨by kernel_rfl⟩
instance : Siz Tryz.prog 186 0 := ⟨Tryz.sizeOf186⟩
instance : Agg Tryz.prog 186 true := ⟨Tryz.isAgg186⟩
instance : Zer Tryz.prog 186 (.agg #[]) := ⟨Tryz.zeroValue186⟩
instance : Inf Tryz.prog 186 0 0 (.agg #[]) := ⟨inf_of (by kernel_rfl)⟩
instance : Cel Tryz.prog 187 0 := ⟨by kernel_rfl⟩
instance : Siz Tryz.prog 187 0 := ⟨Tryz.sizeOf187⟩
instance : Agg Tryz.prog 187 true := ⟨Tryz.isAgg187⟩
instance : Zer Tryz.prog 187 (.agg #[]) := ⟨Tryz.zeroValue187⟩
instance : Inf Tryz.prog 187 0 0 (.agg #[]) := ⟨inf_of (by kernel_rfl)⟩
instance : Plc Tryz.prog 187 [(0, 0)] := ⟨⟨_, Tryz.runUnderlying187, fun w => by simp [Tryz.sizeOf186]⟩⟩
instance : Cel Tryz.prog 188 0 := ⟨by kernel_rfl⟩
instance : Siz Tryz.prog 188 0 := ⟨Tryz.sizeOf188⟩
instance : Agg Tryz.prog 188 true := ⟨Tryz.isAgg188⟩
instance : Zer Tryz.prog 188 (.agg #[]) := ⟨Tryz.zeroValue188⟩
instance : Inf Tryz.prog 188 0 0 (.agg #[]) := ⟨inf_of (by kernel_rfl)⟩
instance : Plc Tryz.prog 188 [(0, 0)] := ⟨⟨_, Tryz.runUnderlying188, fun w => by simp [Tryz.sizeOf186]⟩⟩
instance : Cel Tryz.prog 189 1 := ⟨by kernel_rfl⟩
instance : Siz Tryz.prog 189 1 := ⟨Tryz.sizeOf189⟩
instance : Agg Tryz.prog 189 false := ⟨Tryz.isAgg189⟩
instance : Zer Tryz.prog 189 (.nilFunc) := ⟨Tryz.zeroValue189⟩
instance : Inf Tryz.prog 189 1 8 (.nilFunc) := ⟨inf_of (by kernel_rfl)⟩
instance : Und Tryz.prog 190 (.int .u8) := ⟨Tryz.underlying190⟩
instance : Cel Tryz.prog 190 1 := ⟨by kernel_rfl⟩
instance : Siz Tryz.prog 190 1 := ⟨Tryz.sizeOf190⟩
instance : Agg Tryz.prog 190 false := ⟨Tryz.isAgg190⟩
instance : Zer Tryz.prog 190 (.int .u8 0) := ⟨Tryz.zeroValue190⟩
instance : Inf Tryz.prog 190 1 1 (.int .u8 0) := ⟨inf_of (by kernel_rfl)⟩
instance : Und Tryz.prog 191 (.int .u8) := ⟨Tryz.underlying191⟩
instance : Cel Tryz.prog 191 1 := ⟨by kernel_rfl⟩
instance : Siz Tryz.prog 191 1 := ⟨Tryz.sizeOf191⟩
instance : Agg Tryz.prog 191 false := ⟨Tryz.isAgg191⟩
instance : Zer Tryz.prog 191 (.int .u8 0) := ⟨Tryz.zeroValue191⟩
instance : Inf Tryz.prog 191 1 1 (.int .u8 0) := ⟨inf_of (by kernel_rfl)⟩
instance : Cel Tryz.prog 192 1 := ⟨by kernel_rfl⟩
instance : Siz Tryz.prog 192 1 := ⟨Tryz.sizeOf192⟩
instance : Agg Tryz.prog 192 false := ⟨Tryz.isAgg192⟩
instance : Zer Tryz.prog 192 (.nilFunc) := ⟨Tryz.zeroValue192⟩
instance : Inf Tryz.prog 192 1 8 (.nilFunc) := ⟨inf_of (by kernel_rfl)⟩
instance : Und Tryz.prog 193 (.pointer 5) := ⟨Tryz.underlying193⟩
instance : Cel Tryz.prog 193 1 := ⟨by kernel_rfl⟩
instance : Siz Tryz.prog 193 1 := ⟨Tryz.sizeOf193⟩
instance : Agg Tryz.prog 193 false := ⟨Tryz.isAgg193⟩
instance : Zer Tryz.prog 193 (.pointer none) := ⟨Tryz.zeroValue193⟩
instance : Inf Tryz.prog 193 1 8 (.pointer none) := ⟨inf_of (by kernel_rfl)⟩
instance : Und Tryz.prog 194 (.int .i32) := ⟨Tryz.underlying194⟩
instance : Cel Tryz.prog 194 1 := ⟨by kernel_rfl⟩
instance : Siz Tryz.prog 194 1 := ⟨Tryz.sizeOf194⟩
instance : Agg Tryz.prog 194 false := ⟨Tryz.isAgg194⟩
instance : Zer Tryz.prog 194 (.int .i32 0) := ⟨Tryz.zeroValue194⟩
instance : Inf Tryz.prog 194 1 4 (.int .i32 0) := ⟨inf_of (by kernel_rfl)⟩
instance : Und Tryz.prog 195 (.int .i32) := ⟨Tryz.underlying195⟩
instance : Cel Tryz.prog 195 1 := ⟨by kernel_rfl⟩
instance : Siz Tryz.prog 195 1 := ⟨Tryz.sizeOf195⟩
instance : Agg Tryz.prog 195 false := ⟨Tryz.isAgg195⟩
instance : Zer Tryz.prog 195 (.int .i32 0) := ⟨Tryz.zeroValue195⟩
instance : Inf Tryz.prog 195 1 4 (.int .i32 0) := ⟨inf_of (by kernel_rfl)⟩
instance : Cel Tryz.prog 196 11 := ⟨by kernel_rfl⟩
instance : Siz Tryz.prog 196 11 := ⟨Tryz.sizeOf196⟩
instance : Agg Tryz.prog 196 true := ⟨Tryz.isAgg196⟩
instance : Zer Tryz.prog 196 (.agg #[.int .u64 0, .int .u64 0, .int .u32 0, .int .u8 0, .int .u8 0, .int .u8 0, .int .u8 0, .nilFunc, .pointer none, .int .i32 0, .int .i32 0]) := ⟨Tryz.zeroValue196⟩
instance : Inf Tryz.prog 196 11 48 (.agg #[.int .u64 0, .int .u64 0, .int .u32 0, .int .u8 0, .int .u8 0, .int .u8 0, .int .u8 0, .nilFunc, .pointer none, .int .i32 0, .int .i32 0]) := ⟨inf_of (by kernel_rfl)⟩
instance : Plc Tryz.prog 196 [(0, 1), (1, 1), (2, 1), (3, 1), (4, 1), (5, 1), (6, 1), (7, 1), (8, 1), (9, 1), (10, 1)] := ⟨⟨_, Tryz.runUnderlying196, fun w => by simp [Tryz.sizeOf12, Tryz.sizeOf150, Tryz.sizeOf190, Tryz.sizeOf191, Tryz.sizeOf192, Tryz.sizeOf193, Tryz.sizeOf194, Tryz.sizeOf195, Tryz.sizeOf5]⟩⟩
instance : Fld Tryz.prog 196 0 0 := ⟨fun w a => by simp [Instr.fieldAt, Instr.sureAddr, fieldPlace, Tryz.runUnderlying196, Tryz.sizeOf12]⟩
instance : Fld Tryz.prog 196 1 1 := ⟨fun w a => by simp [Instr.fieldAt, Instr.sureAddr, fieldPlace, Tryz.runUnderlying196, Tryz.sizeOf12]⟩
instance : Fld Tryz.prog 196 2 2 := ⟨fun w a => by simp [Instr.fieldAt, Instr.sureAddr, fieldPlace, Tryz.runUnderlying196, Tryz.sizeOf150]⟩
instance : Fld Tryz.prog 196 3 3 := ⟨fun w a => by simp [Instr.fieldAt, Instr.sureAddr, fieldPlace, Tryz.runUnderlying196, Tryz.sizeOf190]⟩
instance : Fld Tryz.prog 196 4 4 := ⟨fun w a => by simp [Instr.fieldAt, Instr.sureAddr, fieldPlace, Tryz.runUnderlying196, Tryz.sizeOf5]⟩
instance : Fld Tryz.prog 196 5 5 := ⟨fun w a => by simp [Instr.fieldAt, Instr.sureAddr, fieldPlace, Tryz.runUnderlying196, Tryz.sizeOf5]⟩
instance : Fld Tryz.prog 196 6 6 := ⟨fun w a => by simp [Instr.fieldAt, Instr.sureAddr, fieldPlace, Tryz.runUnderlying196, Tryz.sizeOf191]⟩
instance : Fld Tryz.prog 196 7 7 := ⟨fun w a => by simp [Instr.fieldAt, Instr.sureAddr, fieldPlace, Tryz.runUnderlying196, Tryz.sizeOf192]⟩
instance : Fld Tryz.prog 196 8 8 := ⟨fun w a => by simp [Instr.fieldAt, Instr.sureAddr, fieldPlace, Tryz.runUnderlying196, Tryz.sizeOf193]⟩
instance : Fld Tryz.prog 196 9 9 := ⟨fun w a => by simp [Instr.fieldAt, Instr.sureAddr, fieldPlace, Tryz.runUnderlying196, Tryz.sizeOf194]⟩
instance : Fld Tryz.prog 196 10 10 := ⟨fun w a => by simp [Instr.fieldAt, Instr.sureAddr, fieldPlace, Tryz.runUnderlying196, Tryz.sizeOf195]⟩
instance : Cel Tryz.prog 197 11 := ⟨by kernel_rfl⟩
instance : Siz Tryz.prog 197 11 := ⟨Tryz.sizeOf197⟩
instance : Agg Tryz.prog 197 true := ⟨Tryz.isAgg197⟩
instance : Zer Tryz.prog 197 (.agg #[.int .u64 0, .int .u64 0, .int .u32 0, .int .u8 0, .int .u8 0, .int .u8 0, .int .u8 0, .nilFunc, .pointer none, .int .i32 0, .int .i32 0]) := ⟨Tryz.zeroValue197⟩
instance : Inf Tryz.prog 197 11 48 (.agg #[.int .u64 0, .int .u64 0, .int .u32 0, .int .u8 0, .int .u8 0, .int .u8 0, .int .u8 0, .nilFunc, .pointer none, .int .i32 0, .int .i32 0]) := ⟨inf_of (by kernel_rfl)⟩
instance : Plc Tryz.prog 197 [(0, 1), (1, 1), (2, 1), (3, 1), (4, 1), (5, 1), (6, 1), (7, 1), (8, 1), (9, 1), (10, 1)] := ⟨⟨_, Tryz.runUnderlying197, fun w => by simp [Tryz.sizeOf12, Tryz.sizeOf150, Tryz.sizeOf190, Tryz.sizeOf191, Tryz.sizeOf192, Tryz.sizeOf193, Tryz.sizeOf194, Tryz.sizeOf195, Tryz.sizeOf5]⟩⟩
instance : Fld Tryz.prog 197 0 0 := ⟨fun w a => by simp [Instr.fieldAt, Instr.sureAddr, fieldPlace, Tryz.runUnderlying197, Tryz.sizeOf12]⟩
instance : Fld Tryz.prog 197 1 1 := ⟨fun w a => by simp [Instr.fieldAt, Instr.sureAddr, fieldPlace, Tryz.runUnderlying197, Tryz.sizeOf12]⟩
instance : Fld Tryz.prog 197 2 2 := ⟨fun w a => by simp [Instr.fieldAt, Instr.sureAddr, fieldPlace, Tryz.runUnderlying197, Tryz.sizeOf150]⟩
instance : Fld Tryz.prog 197 3 3 := ⟨fun w a => by simp [Instr.fieldAt, Instr.sureAddr, fieldPlace, Tryz.runUnderlying197, Tryz.sizeOf190]⟩
instance : Fld Tryz.prog 197 4 4 := ⟨fun w a => by simp [Instr.fieldAt, Instr.sureAddr, fieldPlace, Tryz.runUnderlying197, Tryz.sizeOf5]⟩
instance : Fld Tryz.prog 197 5 5 := ⟨fun w a => by simp [Instr.fieldAt, Instr.sureAddr, fieldPlace, Tryz.runUnderlying197, Tryz.sizeOf5]⟩
instance : Fld Tryz.prog 197 6 6 := ⟨fun w a => by simp [Instr.fieldAt, Instr.sureAddr, fieldPlace, Tryz.runUnderlying197, Tryz.sizeOf191]⟩
instance : Fld Tryz.prog 197 7 7 := ⟨fun w a => by simp [Instr.fieldAt, Instr.sureAddr, fieldPlace, Tryz.runUnderlying197, Tryz.sizeOf192]⟩
instance : Fld Tryz.prog 197 8 8 := ⟨fun w a => by simp [Instr.fieldAt, Instr.sureAddr, fieldPlace, Tryz.runUnderlying197, Tryz.sizeOf193]⟩
instance : Fld Tryz.prog 197 9 9 := ⟨fun w a => by simp [Instr.fieldAt, Instr.sureAddr, fieldPlace, Tryz.runUnderlying197, Tryz.sizeOf194]⟩
instance : Fld Tryz.prog 197 10 10 := ⟨fun w a => by simp [Instr.fieldAt, Instr.sureAddr, fieldPlace, Tryz.runUnderlying197, Tryz.sizeOf195]⟩
instance : Und Tryz.prog 198 .unsafePointer := ⟨Tryz.underlying198⟩
instance : Cel Tryz.prog 198 1 := ⟨by kernel_rfl⟩
instance : Siz Tryz.prog 198 1 := ⟨Tryz.sizeOf198⟩
instance : Agg Tryz.prog 198 false := ⟨Tryz.isAgg198⟩
instance : Zer Tryz.prog 198 (.pointer none) := ⟨Tryz.zeroValue198⟩
instance : Inf Tryz.prog 198 1 8 (.pointer none) := ⟨inf_of (by kernel_rfl)⟩
instance : Mix Tryz.prog := ⟨by decide⟩
end Go.Proofs
