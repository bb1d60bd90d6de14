/- The facts on a seat's types, as instances of the abstract logic's classes. No condition. -/
import Derived.Test.YtfnmipagllofiaaGreatDoorOpen
import Derived.Test.YtfnmipagllofiaaGreatDoorOps17
import Derived.Test.YtfnmipagllofiaaGreatDoorProg
namespace Go.Proofs
open Go.AL
instance : Cel Tryz.prog 0 1 := ⟨by kernel_rfl⟩
instance : Siz Tryz.prog 0 1 := ⟨Tryz.sizeOf0⟩
instance : Cel Tryz.prog 1 1 := ⟨by kernel_rfl⟩
instance : Siz Tryz.prog 1 1 := ⟨Tryz.sizeOf1⟩
instance : Agg Tryz.prog 1 false := ⟨Tryz.isAgg1⟩
instance : Zer Tryz.prog 1 (.nilFunc) := ⟨Tryz.zeroValue1⟩
instance : Inf Tryz.prog 1 1 8 (.nilFunc) := ⟨inf_of (by kernel_rfl)⟩
instance : Und Tryz.prog 2 (.int .i64) := ⟨Tryz.underlying2⟩
instance : Cel Tryz.prog 2 1 := ⟨by kernel_rfl⟩
instance : Siz Tryz.prog 2 1 := ⟨Tryz.sizeOf2⟩
instance : Agg Tryz.prog 2 false := ⟨Tryz.isAgg2⟩
instance : Zer Tryz.prog 2 (.int .i64 0) := ⟨Tryz.zeroValue2⟩
instance : Inf Tryz.prog 2 1 8 (.int .i64 0) := ⟨inf_of (by kernel_rfl)⟩
instance : Und Tryz.prog 3 (.int .i64) := ⟨Tryz.underlying3⟩
instance : Cel Tryz.prog 3 1 := ⟨by kernel_rfl⟩
instance : Siz Tryz.prog 3 1 := ⟨Tryz.sizeOf3⟩
instance : Agg Tryz.prog 3 false := ⟨Tryz.isAgg3⟩
instance : Zer Tryz.prog 3 (.int .i64 0) := ⟨Tryz.zeroValue3⟩
instance : Inf Tryz.prog 3 1 8 (.int .i64 0) := ⟨inf_of (by kernel_rfl)⟩
instance : Und Tryz.prog 4 .bool := ⟨Tryz.underlying4⟩
instance : Cel Tryz.prog 4 1 := ⟨by kernel_rfl⟩
instance : Siz Tryz.prog 4 1 := ⟨Tryz.sizeOf4⟩
instance : Agg Tryz.prog 4 false := ⟨Tryz.isAgg4⟩
instance : Zer Tryz.prog 4 (.bool false) := ⟨Tryz.zeroValue4⟩
instance : Inf Tryz.prog 4 1 1 (.bool false) := ⟨inf_of (by kernel_rfl)⟩
instance : Und Tryz.prog 5 (.int .u8) := ⟨Tryz.underlying5⟩
instance : Cel Tryz.prog 5 1 := ⟨by kernel_rfl⟩
instance : Siz Tryz.prog 5 1 := ⟨Tryz.sizeOf5⟩
instance : Agg Tryz.prog 5 false := ⟨Tryz.isAgg5⟩
instance : Zer Tryz.prog 5 (.int .u8 0) := ⟨Tryz.zeroValue5⟩
instance : Inf Tryz.prog 5 1 1 (.int .u8 0) := ⟨inf_of (by kernel_rfl)⟩
instance : Und Tryz.prog 6 (.int .u8) := ⟨Tryz.underlying6⟩
instance : Cel Tryz.prog 6 1 := ⟨by kernel_rfl⟩
instance : Siz Tryz.prog 6 1 := ⟨Tryz.sizeOf6⟩
instance : Agg Tryz.prog 6 false := ⟨Tryz.isAgg6⟩
instance : Zer Tryz.prog 6 (.int .u8 0) := ⟨Tryz.zeroValue6⟩
instance : Inf Tryz.prog 6 1 1 (.int .u8 0) := ⟨inf_of (by kernel_rfl)⟩
instance : Cel Tryz.prog 7 4 := ⟨by kernel_rfl⟩
instance : Siz Tryz.prog 7 4 := ⟨Tryz.sizeOf7⟩
instance : Agg Tryz.prog 7 true := ⟨Tryz.isAgg7⟩
instance : Zer Tryz.prog 7 (.agg #[.int .i64 0, .int .i64 0, .bool false, .int .u8 0]) := ⟨Tryz.zeroValue7⟩
instance : Inf Tryz.prog 7 4 24 (.agg #[.int .i64 0, .int .i64 0, .bool false, .int .u8 0]) := ⟨inf_of (by kernel_rfl)⟩
instance : Plc Tryz.prog 7 [(0, 1), (1, 1), (2, 1), (3, 1)] := ⟨⟨_, Tryz.runUnderlying7, fun w => by simp [Tryz.sizeOf2, Tryz.sizeOf3, Tryz.sizeOf4, Tryz.sizeOf6]⟩⟩
instance : Fld Tryz.prog 7 0 0 := ⟨fun w a => by simp [Instr.fieldAt, Instr.sureAddr, fieldPlace, Tryz.runUnderlying7, Tryz.sizeOf2]⟩
instance : Fld Tryz.prog 7 1 1 := ⟨fun w a => by simp [Instr.fieldAt, Instr.sureAddr, fieldPlace, Tryz.runUnderlying7, Tryz.sizeOf3]⟩
instance : Fld Tryz.prog 7 2 2 := ⟨fun w a => by simp [Instr.fieldAt, Instr.sureAddr, fieldPlace, Tryz.runUnderlying7, Tryz.sizeOf4]⟩
instance : Fld Tryz.prog 7 3 3 := ⟨fun w a => by simp [Instr.fieldAt, Instr.sureAddr, fieldPlace, Tryz.runUnderlying7, Tryz.sizeOf6]⟩
instance : Cel Tryz.prog 8 4 := ⟨by kernel_rfl⟩
instance : Siz Tryz.prog 8 4 := ⟨Tryz.sizeOf8⟩
instance : Agg Tryz.prog 8 true := ⟨Tryz.isAgg8⟩
instance : Zer Tryz.prog 8 (.agg #[.int .i64 0, .int .i64 0, .bool false, .int .u8 0]) := ⟨Tryz.zeroValue8⟩
instance : Inf Tryz.prog 8 4 24 (.agg #[.int .i64 0, .int .i64 0, .bool false, .int .u8 0]) := ⟨inf_of (by kernel_rfl)⟩
instance : Plc Tryz.prog 8 [(0, 1), (1, 1), (2, 1), (3, 1)] := ⟨⟨_, Tryz.runUnderlying8, fun w => by simp [Tryz.sizeOf2, Tryz.sizeOf3, Tryz.sizeOf4, Tryz.sizeOf6]⟩⟩
instance : Fld Tryz.prog 8 0 0 := ⟨fun w a => by simp [Instr.fieldAt, Instr.sureAddr, fieldPlace, Tryz.runUnderlying8, Tryz.sizeOf2]⟩
instance : Fld Tryz.prog 8 1 1 := ⟨fun w a => by simp [Instr.fieldAt, Instr.sureAddr, fieldPlace, Tryz.runUnderlying8, Tryz.sizeOf3]⟩
instance : Fld Tryz.prog 8 2 2 := ⟨fun w a => by simp [Instr.fieldAt, Instr.sureAddr, fieldPlace, Tryz.runUnderlying8, Tryz.sizeOf4]⟩
instance : Fld Tryz.prog 8 3 3 := ⟨fun w a => by simp [Instr.fieldAt, Instr.sureAddr, fieldPlace, Tryz.runUnderlying8, Tryz.sizeOf6]⟩
instance : Und Tryz.prog 9 .string := ⟨Tryz.underlying9⟩
instance : Cel Tryz.prog 9 1 := ⟨by kernel_rfl⟩
instance : Siz Tryz.prog 9 1 := ⟨Tryz.sizeOf9⟩
instance : Agg Tryz.prog 9 false := ⟨Tryz.isAgg9⟩
instance : Zer Tryz.prog 9 (.string ⟨#[]⟩) := ⟨Tryz.zeroValue9⟩
instance : Inf Tryz.prog 9 1 16 (.string ⟨#[]⟩) := ⟨inf_of (by kernel_rfl)⟩
instance : Und Tryz.prog 10 .string := ⟨Tryz.underlying10⟩
instance : Cel Tryz.prog 10 1 := ⟨by kernel_rfl⟩
instance : Siz Tryz.prog 10 1 := ⟨Tryz.sizeOf10⟩
instance : Agg Tryz.prog 10 false := ⟨Tryz.isAgg10⟩
instance : Zer Tryz.prog 10 (.string ⟨#[]⟩) := ⟨Tryz.zeroValue10⟩
instance : Inf Tryz.prog 10 1 16 (.string ⟨#[]⟩) := ⟨inf_of (by kernel_rfl)⟩
instance : Und Tryz.prog 11 .string := ⟨Tryz.underlying11⟩
instance : Cel Tryz.prog 11 1 := ⟨by kernel_rfl⟩
instance : Siz Tryz.prog 11 1 := ⟨Tryz.sizeOf11⟩
instance : Agg Tryz.prog 11 false := ⟨Tryz.isAgg11⟩
instance : Zer Tryz.prog 11 (.string ⟨#[]⟩) := ⟨Tryz.zeroValue11⟩
instance : Inf Tryz.prog 11 1 16 (.string ⟨#[]⟩) := ⟨inf_of (by kernel_rfl)⟩
instance : Und Tryz.prog 12 (.int .u64) := ⟨Tryz.underlying12⟩
instance : Cel Tryz.prog 12 1 := ⟨by kernel_rfl⟩
instance : Siz Tryz.prog 12 1 := ⟨Tryz.sizeOf12⟩
instance : Agg Tryz.prog 12 false := ⟨Tryz.isAgg12⟩
instance : Zer Tryz.prog 12 (.int .u64 0) := ⟨Tryz.zeroValue12⟩
instance : Inf Tryz.prog 12 1 8 (.int .u64 0) := ⟨inf_of (by kernel_rfl)⟩
instance : Cel Tryz.prog 13 2 := ⟨by kernel_rfl⟩
instance : Siz Tryz.prog 13 2 := ⟨Tryz.sizeOf13⟩
instance : Agg Tryz.prog 13 true := ⟨Tryz.isAgg13⟩
instance : Zer Tryz.prog 13 (.agg #[.string ⟨#[]⟩, .int .u64 0]) := ⟨Tryz.zeroValue13⟩
instance : Inf Tryz.prog 13 2 24 (.agg #[.string ⟨#[]⟩, .int .u64 0]) := ⟨inf_of (by kernel_rfl)⟩
instance : Plc Tryz.prog 13 [(0, 1), (1, 1)] := ⟨⟨_, Tryz.runUnderlying13, fun w => by simp [Tryz.sizeOf12, Tryz.sizeOf9]⟩⟩
instance : Fld Tryz.prog 13 0 0 := ⟨fun w a => by simp [Instr.fieldAt, Instr.sureAddr, fieldPlace, Tryz.runUnderlying13, Tryz.sizeOf9]⟩
instance : Fld Tryz.prog 13 1 1 := ⟨fun w a => by simp [Instr.fieldAt, Instr.sureAddr, fieldPlace, Tryz.runUnderlying13, Tryz.sizeOf12]⟩
instance : Cel Tryz.prog 14 2 := ⟨by kernel_rfl⟩
instance : Siz Tryz.prog 14 2 := ⟨Tryz.sizeOf14⟩
instance : Agg Tryz.prog 14 true := ⟨Tryz.isAgg14⟩
instance : Zer Tryz.prog 14 (.agg #[.string ⟨#[]⟩, .int .u64 0]) := ⟨Tryz.zeroValue14⟩
instance : Inf Tryz.prog 14 2 24 (.agg #[.string ⟨#[]⟩, .int .u64 0]) := ⟨inf_of (by kernel_rfl)⟩
instance : Plc Tryz.prog 14 [(0, 1), (1, 1)] := ⟨⟨_, Tryz.runUnderlying14, fun w => by simp [Tryz.sizeOf12, Tryz.sizeOf9]⟩⟩
instance : Fld Tryz.prog 14 0 0 := ⟨fun w a => by simp [Instr.fieldAt, Instr.sureAddr, fieldPlace, Tryz.runUnderlying14, Tryz.sizeOf9]⟩
instance : Fld Tryz.prog 14 1 1 := ⟨fun w a => by simp [Instr.fieldAt, Instr.sureAddr, fieldPlace, Tryz.runUnderlying14, Tryz.sizeOf12]⟩
instance : Und Tryz.prog 15 (.pointer 147) := ⟨Tryz.underlying15⟩
instance : Cel Tryz.prog 15 1 := ⟨by kernel_rfl⟩
instance : Siz Tryz.prog 15 1 := ⟨Tryz.sizeOf15⟩
instance : Agg Tryz.prog 15 false := ⟨Tryz.isAgg15⟩
instance : Zer Tryz.prog 15 (.pointer none) := ⟨Tryz.zeroValue15⟩
instance : Inf Tryz.prog 15 1 8 (.pointer none) := ⟨inf_of (by kernel_rfl)⟩
instance : Und Tryz.prog 16 (.pointer 150) := ⟨Tryz.underlying16⟩
instance : Cel Tryz.prog 16 1 := ⟨by kernel_rfl⟩
instance : Siz Tryz.prog 16 1 := ⟨Tryz.sizeOf16⟩
instance : Agg Tryz.prog 16 false := ⟨Tryz.isAgg16⟩
instance : Zer Tryz.prog 16 (.pointer none) := ⟨Tryz.zeroValue16⟩
instance : Inf Tryz.prog 16 1 8 (.pointer none) := ⟨inf_of (by kernel_rfl)⟩
instance : Und Tryz.prog 17 (.pointer 158) := ⟨Tryz.underlying17⟩
instance : Cel Tryz.prog 17 1 := ⟨by kernel_rfl⟩
instance : Siz Tryz.prog 17 1 := ⟨Tryz.sizeOf17⟩
instance : Agg Tryz.prog 17 false := ⟨Tryz.isAgg17⟩
instance : Zer Tryz.prog 17 (.pointer none) := ⟨Tryz.zeroValue17⟩
instance : Inf Tryz.prog 17 1 8 (.pointer none) := ⟨inf_of (by kernel_rfl)⟩
instance : Cel Tryz.prog 18 1 := ⟨by kernel_rfl⟩
instance : Siz Tryz.prog 18 1 := ⟨Tryz.sizeOf18⟩
instance : Agg Tryz.prog 18 true := ⟨Tryz.isAgg18⟩
instance : Zer Tryz.prog 18 (.agg #[.pointer none]) := ⟨Tryz.zeroValue18⟩
instance : Inf Tryz.prog 18 1 8 (.agg #[.pointer none]) := ⟨inf_of (by kernel_rfl)⟩
instance : Plc Tryz.prog 18 [(0, 1)] := ⟨⟨_, Tryz.runUnderlying18, fun w => by simp [Tryz.sizeOf17]⟩⟩
instance : Fld Tryz.prog 18 0 0 := ⟨fun w a => by simp [Instr.fieldAt, Instr.sureAddr, fieldPlace, Tryz.runUnderlying18, Tryz.sizeOf17]⟩
instance : Cel Tryz.prog 19 1 := ⟨by kernel_rfl⟩
instance : Siz Tryz.prog 19 1 := ⟨Tryz.sizeOf19⟩
instance : Agg Tryz.prog 19 true := ⟨Tryz.isAgg19⟩
instance : Zer Tryz.prog 19 (.agg #[.pointer none]) := ⟨Tryz.zeroValue19⟩
instance : Inf Tryz.prog 19 1 8 (.agg #[.pointer none]) := ⟨inf_of (by kernel_rfl)⟩
instance : Plc Tryz.prog 19 [(0, 1)] := ⟨⟨_, Tryz.runUnderlying19, fun w => by simp [Tryz.sizeOf17]⟩⟩
instance : Fld Tryz.prog 19 0 0 := ⟨fun w a => by simp [Instr.fieldAt, Instr.sureAddr, fieldPlace, Tryz.runUnderlying19, Tryz.sizeOf17]⟩
instance : Ifc Tryz.prog 20 := ⟨⟨_, Tryz.underlying20⟩⟩
instance : Cel Tryz.prog 20 1 := ⟨by kernel_rfl⟩
instance : Siz Tryz.prog 20 1 := ⟨Tryz.sizeOf20⟩
instance : Agg Tryz.prog 20 false := ⟨Tryz.isAgg20⟩
instance : Zer Tryz.prog 20 (.nilIface) := ⟨Tryz.zeroValue20⟩
instance : Inf Tryz.prog 20 1 16 (.nilIface) := ⟨inf_of (by kernel_rfl)⟩
instance : Und Tryz.prog 21 (.int .i32) := ⟨Tryz.underlying21⟩
instance : Cel Tryz.prog 21 1 := ⟨by kernel_rfl⟩
instance : Siz Tryz.prog 21 1 := ⟨Tryz.sizeOf21⟩
instance : Agg Tryz.prog 21 false := ⟨Tryz.isAgg21⟩
instance : Zer Tryz.prog 21 (.int .i32 0) := ⟨Tryz.zeroValue21⟩
instance : Inf Tryz.prog 21 1 4 (.int .i32 0) := ⟨inf_of (by kernel_rfl)⟩
instance : Cel Tryz.prog 22 2 := ⟨by kernel_rfl⟩
instance : Siz Tryz.prog 22 2 := ⟨Tryz.sizeOf22⟩
instance : Agg Tryz.prog 22 true := ⟨Tryz.isAgg22⟩
instance : Zer Tryz.prog 22 (.agg #[.int .i64 0, .int .i64 0]) := ⟨Tryz.zeroValue22⟩
instance : Inf Tryz.prog 22 2 16 (.agg #[.int .i64 0, .int .i64 0]) := ⟨inf_of (by kernel_rfl)⟩
instance : Plc Tryz.prog 22 [(0, 1), (1, 1)] := ⟨⟨_, Tryz.runUnderlying22, fun w => by simp [Tryz.sizeOf2]⟩⟩
instance : Fld Tryz.prog 22 0 0 := ⟨fun w a => by simp [Instr.fieldAt, Instr.sureAddr, fieldPlace, Tryz.runUnderlying22, Tryz.sizeOf2]⟩
instance : Fld Tryz.prog 22 1 1 := ⟨fun w a => by simp [Instr.fieldAt, Instr.sureAddr, fieldPlace, Tryz.runUnderlying22, Tryz.sizeOf2]⟩
instance : Cel Tryz.prog 23 2 := ⟨by kernel_rfl⟩
instance : Siz Tryz.prog 23 2 := ⟨Tryz.sizeOf23⟩
instance : Agg Tryz.prog 23 true := ⟨Tryz.isAgg23⟩
instance : Zer Tryz.prog 23 (.agg #[.int .i64 0, .int .i64 0]) := ⟨Tryz.zeroValue23⟩
instance : Inf Tryz.prog 23 2 16 (.agg #[.int .i64 0, .int .i64 0]) := ⟨inf_of (by kernel_rfl)⟩
instance : Plc Tryz.prog 23 [(0, 1), (1, 1)] := ⟨⟨_, Tryz.runUnderlying23, fun w => by simp [Tryz.sizeOf2]⟩⟩
instance : Fld Tryz.prog 23 0 0 := ⟨fun w a => by simp [Instr.fieldAt, Instr.sureAddr, fieldPlace, Tryz.runUnderlying23, Tryz.sizeOf2]⟩
instance : Fld Tryz.prog 23 1 1 := ⟨fun w a => by simp [Instr.fieldAt, Instr.sureAddr, fieldPlace, Tryz.runUnderlying23, Tryz.sizeOf2]⟩
instance : Und Tryz.prog 24 (.slice 23) := ⟨Tryz.underlying24⟩
instance : Cel Tryz.prog 24 1 := ⟨by kernel_rfl⟩
instance : Siz Tryz.prog 24 1 := ⟨Tryz.sizeOf24⟩
instance : Agg Tryz.prog 24 false := ⟨Tryz.isAgg24⟩
instance : Zer Tryz.prog 24 (.slice none 0 0) := ⟨Tryz.zeroValue24⟩
instance : Inf Tryz.prog 24 1 24 (.slice none 0 0) := ⟨inf_of (by kernel_rfl)⟩
instance : Und Tryz.prog 25 (.int .i64) := ⟨Tryz.underlying25⟩
instance : Cel Tryz.prog 25 1 := ⟨by kernel_rfl⟩
instance : Siz Tryz.prog 25 1 := ⟨Tryz.sizeOf25⟩
instance : Agg Tryz.prog 25 false := ⟨Tryz.isAgg25⟩
instance : Zer Tryz.prog 25 (.int .i64 0) := ⟨Tryz.zeroValue25⟩
instance : Inf Tryz.prog 25 1 8 (.int .i64 0) := ⟨inf_of (by kernel_rfl)⟩
instance : Cel Tryz.prog 26 1 := ⟨by kernel_rfl⟩
instance : Siz Tryz.prog 26 1 := ⟨Tryz.sizeOf26⟩
instance : Cel Tryz.prog 27 1 := ⟨by kernel_rfl⟩
instance : Siz Tryz.prog 27 1 := ⟨Tryz.sizeOf27⟩
instance : Agg Tryz.prog 27 false := ⟨Tryz.isAgg27⟩
instance : Zer Tryz.prog 27 (.nilFunc) := ⟨Tryz.zeroValue27⟩
instance : Inf Tryz.prog 27 1 8 (.nilFunc) := ⟨inf_of (by kernel_rfl)⟩
instance : Cel Tryz.prog 28 1 := ⟨by kernel_rfl⟩
instance : Siz Tryz.prog 28 1 := ⟨Tryz.sizeOf28⟩
instance : Cel Tryz.prog 29 1 := ⟨by kernel_rfl⟩
instance : Siz Tryz.prog 29 1 := ⟨Tryz.sizeOf29⟩
instance : Agg Tryz.prog 29 false := ⟨Tryz.isAgg29⟩
instance : Zer Tryz.prog 29 (.nilFunc) := ⟨Tryz.zeroValue29⟩
instance : Inf Tryz.prog 29 1 8 (.nilFunc) := ⟨inf_of (by kernel_rfl)⟩
instance : Cel Tryz.prog 30 1 := ⟨by kernel_rfl⟩
instance : Siz Tryz.prog 30 1 := ⟨Tryz.sizeOf30⟩
instance : Agg Tryz.prog 30 false := ⟨Tryz.isAgg30⟩
instance : Zer Tryz.prog 30 (.nilFunc) := ⟨Tryz.zeroValue30⟩
instance : Inf Tryz.prog 30 1 8 (.nilFunc) := ⟨inf_of (by kernel_rfl)⟩
instance : Cel Tryz.prog 31 1 := ⟨by kernel_rfl⟩
instance : Siz Tryz.prog 31 1 := ⟨Tryz.sizeOf31⟩
instance : Agg Tryz.prog 31 false := ⟨Tryz.isAgg31⟩
instance : Zer Tryz.prog 31 (.nilFunc) := ⟨Tryz.zeroValue31⟩
instance : Inf Tryz.prog 31 1 8 (.nilFunc) := ⟨inf_of (by kernel_rfl)⟩
instance : Cel Tryz.prog 32 1 := ⟨by kernel_rfl⟩
instance : Siz Tryz.prog 32 1 := ⟨Tryz.sizeOf32⟩
instance : Agg Tryz.prog 32 false := ⟨Tryz.isAgg32⟩
instance : Zer Tryz.prog 32 (.nilFunc) := ⟨Tryz.zeroValue32⟩
instance : Inf Tryz.prog 32 1 8 (.nilFunc) := ⟨inf_of (by kernel_rfl)⟩
instance : Cel Tryz.prog 33 1 := ⟨by kernel_rfl⟩
instance : Siz Tryz.prog 33 1 := ⟨Tryz.sizeOf33⟩
instance : Agg Tryz.prog 33 false := ⟨Tryz.isAgg33⟩
instance : Zer Tryz.prog 33 (.nilFunc) := ⟨Tryz.zeroValue33⟩
instance : Inf Tryz.prog 33 1 8 (.nilFunc) := ⟨inf_of (by kernel_rfl)⟩
instance : Cel Tryz.prog 34 1 := ⟨by kernel_rfl⟩
instance : Siz Tryz.prog 34 1 := ⟨Tryz.sizeOf34⟩
instance : Agg Tryz.prog 34 false := ⟨Tryz.isAgg34⟩
instance : Zer Tryz.prog 34 (.nilFunc) := ⟨Tryz.zeroValue34⟩
instance : Inf Tryz.prog 34 1 8 (.nilFunc) := ⟨inf_of (by kernel_rfl)⟩
instance : Cel Tryz.prog 35 1 := ⟨by kernel_rfl⟩
instance : Siz Tryz.prog 35 1 := ⟨Tryz.sizeOf35⟩
instance : Agg Tryz.prog 35 false := ⟨Tryz.isAgg35⟩
instance : Zer Tryz.prog 35 (.nilFunc) := ⟨Tryz.zeroValue35⟩
instance : Inf Tryz.prog 35 1 8 (.nilFunc) := ⟨inf_of (by kernel_rfl)⟩
instance : Cel Tryz.prog 36 1 := ⟨by kernel_rfl⟩
instance : Siz Tryz.prog 36 1 := ⟨Tryz.sizeOf36⟩
instance : Agg Tryz.prog 36 false := ⟨Tryz.isAgg36⟩
instance : Zer Tryz.prog 36 (.nilFunc) := ⟨Tryz.zeroValue36⟩
instance : Inf Tryz.prog 36 1 8 (.nilFunc) := ⟨inf_of (by kernel_rfl)⟩
instance : Cel Tryz.prog 37 1 := ⟨by kernel_rfl⟩
instance : Siz Tryz.prog 37 1 := ⟨Tryz.sizeOf37⟩
instance : Agg Tryz.prog 37 false := ⟨Tryz.isAgg37⟩
instance : Zer Tryz.prog 37 (.nilFunc) := ⟨Tryz.zeroValue37⟩
instance : Inf Tryz.prog 37 1 8 (.nilFunc) := ⟨inf_of (by kernel_rfl)⟩
instance : Cel Tryz.prog 38 1 := ⟨by kernel_rfl⟩
instance : Siz Tryz.prog 38 1 := ⟨Tryz.sizeOf38⟩
instance : Agg Tryz.prog 38 false := ⟨Tryz.isAgg38⟩
instance : Zer Tryz.prog 38 (.nilFunc) := ⟨Tryz.zeroValue38⟩
instance : Inf Tryz.prog 38 1 8 (.nilFunc) := ⟨inf_of (by kernel_rfl)⟩
instance : Und Tryz.prog 39 (.slice 9) := ⟨Tryz.underlying39⟩
instance : Cel Tryz.prog 39 1 := ⟨by kernel_rfl⟩
instance : Siz Tryz.prog 39 1 := ⟨Tryz.sizeOf39⟩
instance : Agg Tryz.prog 39 false := ⟨Tryz.isAgg39⟩
instance : Zer Tryz.prog 39 (.slice none 0 0) := ⟨Tryz.zeroValue39⟩
instance : Inf Tryz.prog 39 1 24 (.slice none 0 0) := ⟨inf_of (by kernel_rfl)⟩
instance : Cel Tryz.prog 40 1 := ⟨by kernel_rfl⟩
instance : Siz Tryz.prog 40 1 := ⟨Tryz.sizeOf40⟩
instance : Agg Tryz.prog 40 false := ⟨Tryz.isAgg40⟩
instance : Zer Tryz.prog 40 (.nilFunc) := ⟨Tryz.zeroValue40⟩
instance : Inf Tryz.prog 40 1 8 (.nilFunc) := ⟨inf_of (by kernel_rfl)⟩
instance : Cel Tryz.prog 41 1 := ⟨by kernel_rfl⟩
instance : Siz Tryz.prog 41 1 := ⟨Tryz.sizeOf41⟩
instance : Agg Tryz.prog 41 false := ⟨Tryz.isAgg41⟩
instance : Zer Tryz.prog 41 (.nilFunc) := ⟨Tryz.zeroValue41⟩
instance : Inf Tryz.prog 41 1 8 (.nilFunc) := ⟨inf_of (by kernel_rfl)⟩
instance : Cel Tryz.prog 42 1 := ⟨by kernel_rfl⟩
instance : Siz Tryz.prog 42 1 := ⟨Tryz.sizeOf42⟩
instance : Agg Tryz.prog 42 false := ⟨Tryz.isAgg42⟩
instance : Zer Tryz.prog 42 (.nilFunc) := ⟨Tryz.zeroValue42⟩
instance : Inf Tryz.prog 42 1 8 (.nilFunc) := ⟨inf_of (by kernel_rfl)⟩
instance : Cel Tryz.prog 43 1 := ⟨by kernel_rfl⟩
instance : Siz Tryz.prog 43 1 := ⟨Tryz.sizeOf43⟩
instance : Agg Tryz.prog 43 false := ⟨Tryz.isAgg43⟩
instance : Zer Tryz.prog 43 (.nilFunc) := ⟨Tryz.zeroValue43⟩
instance : Inf Tryz.prog 43 1 8 (.nilFunc) := ⟨inf_of (by kernel_rfl)⟩
instance : Cel Tryz.prog 44 1 := ⟨by kernel_rfl⟩
instance : Siz Tryz.prog 44 1 := ⟨Tryz.sizeOf44⟩
instance : Agg Tryz.prog 44 false := ⟨Tryz.isAgg44⟩
instance : Zer Tryz.prog 44 (.nilFunc) := ⟨Tryz.zeroValue44⟩
instance : Inf Tryz.prog 44 1 8 (.nilFunc) := ⟨inf_of (by kernel_rfl)⟩
instance : Cel Tryz.prog 45 1 := ⟨by kernel_rfl⟩
instance : Siz Tryz.prog 45 1 := ⟨Tryz.sizeOf45⟩
instance : Agg Tryz.prog 45 false := ⟨Tryz.isAgg45⟩
instance : Zer Tryz.prog 45 (.nilFunc) := ⟨Tryz.zeroValue45⟩
instance : Inf Tryz.prog 45 1 8 (.nilFunc) := ⟨inf_of (by kernel_rfl)⟩
instance : Cel Tryz.prog 46 1 := ⟨by kernel_rfl⟩
instance : Siz Tryz.prog 46 1 := ⟨Tryz.sizeOf46⟩
instance : Agg Tryz.prog 46 false := ⟨Tryz.isAgg46⟩
instance : Zer Tryz.prog 46 (.nilFunc) := ⟨Tryz.zeroValue46⟩
instance : Inf Tryz.prog 46 1 8 (.nilFunc) := ⟨inf_of (by kernel_rfl)⟩
instance : Cel Tryz.prog 47 1 := ⟨by kernel_rfl⟩
instance : Siz Tryz.prog 47 1 := ⟨Tryz.sizeOf47⟩
instance : Agg Tryz.prog 47 false := ⟨Tryz.isAgg47⟩
instance : Zer Tryz.prog 47 (.nilFunc) := ⟨Tryz.zeroValue47⟩
instance : Inf Tryz.prog 47 1 8 (.nilFunc) := ⟨inf_of (by kernel_rfl)⟩
instance : Cel Tryz.prog 48 1 := ⟨by kernel_rfl⟩
instance : Siz Tryz.prog 48 1 := ⟨Tryz.sizeOf48⟩
instance : Agg Tryz.prog 48 false := ⟨Tryz.isAgg48⟩
instance : Zer Tryz.prog 48 (.nilFunc) := ⟨Tryz.zeroValue48⟩
instance : Inf Tryz.prog 48 1 8 (.nilFunc) := ⟨inf_of (by kernel_rfl)⟩
instance : Und Tryz.prog 49 (.slice 24) := ⟨Tryz.underlying49⟩
instance : Cel Tryz.prog 49 1 := ⟨by kernel_rfl⟩
instance : Siz Tryz.prog 49 1 := ⟨Tryz.sizeOf49⟩
instance : Agg Tryz.prog 49 false := ⟨Tryz.isAgg49⟩
instance : Zer Tryz.prog 49 (.slice none 0 0) := ⟨Tryz.zeroValue49⟩
instance : Inf Tryz.prog 49 1 24 (.slice none 0 0) := ⟨inf_of (by kernel_rfl)⟩
instance : Cel Tryz.prog 50 1 := ⟨by kernel_rfl⟩
instance : Siz Tryz.prog 50 1 := ⟨Tryz.sizeOf50⟩
instance : Agg Tryz.prog 50 false := ⟨Tryz.isAgg50⟩
instance : Zer Tryz.prog 50 (.nilFunc) := ⟨Tryz.zeroValue50⟩
instance : Inf Tryz.prog 50 1 8 (.nilFunc) := ⟨inf_of (by kernel_rfl)⟩
instance : Cel Tryz.prog 51 1 := ⟨by kernel_rfl⟩
instance : Siz Tryz.prog 51 1 := ⟨Tryz.sizeOf51⟩
instance : Agg Tryz.prog 51 false := ⟨Tryz.isAgg51⟩
instance : Zer Tryz.prog 51 (.nilFunc) := ⟨Tryz.zeroValue51⟩
instance : Inf Tryz.prog 51 1 8 (.nilFunc) := ⟨inf_of (by kernel_rfl)⟩
instance : Cel Tryz.prog 52 1 := ⟨by kernel_rfl⟩
instance : Siz Tryz.prog 52 1 := ⟨Tryz.sizeOf52⟩
instance : Agg Tryz.prog 52 false := ⟨Tryz.isAgg52⟩
instance : Zer Tryz.prog 52 (.nilFunc) := ⟨Tryz.zeroValue52⟩
instance : Inf Tryz.prog 52 1 8 (.nilFunc) := ⟨inf_of (by kernel_rfl)⟩
instance : Cel Tryz.prog 53 1 := ⟨by kernel_rfl⟩
instance : Siz Tryz.prog 53 1 := ⟨Tryz.sizeOf53⟩
instance : Agg Tryz.prog 53 false := ⟨Tryz.isAgg53⟩
instance : Zer Tryz.prog 53 (.nilFunc) := ⟨Tryz.zeroValue53⟩
instance : Inf Tryz.prog 53 1 8 (.nilFunc) := ⟨inf_of (by kernel_rfl)⟩
instance : Cel Tryz.prog 54 1 := ⟨by kernel_rfl⟩
instance : Siz Tryz.prog 54 1 := ⟨Tryz.sizeOf54⟩
instance : Agg Tryz.prog 54 false := ⟨Tryz.isAgg54⟩
instance : Zer Tryz.prog 54 (.nilFunc) := ⟨Tryz.zeroValue54⟩
instance : Inf Tryz.prog 54 1 8 (.nilFunc) := ⟨inf_of (by kernel_rfl)⟩
instance : Cel Tryz.prog 55 1 := ⟨by kernel_rfl⟩
instance : Siz Tryz.prog 55 1 := ⟨Tryz.sizeOf55⟩
instance : Agg Tryz.prog 55 false := ⟨Tryz.isAgg55⟩
instance : Zer Tryz.prog 55 (.nilFunc) := ⟨Tryz.zeroValue55⟩
instance : Inf Tryz.prog 55 1 8 (.nilFunc) := ⟨inf_of (by kernel_rfl)⟩
instance : Und Tryz.prog 56 (.pointer 59) := ⟨Tryz.underlying56⟩
instance : Cel Tryz.prog 56 1 := ⟨by kernel_rfl⟩
instance : Siz Tryz.prog 56 1 := ⟨Tryz.sizeOf56⟩
instance : Agg Tryz.prog 56 false := ⟨Tryz.isAgg56⟩
instance : Zer Tryz.prog 56 (.pointer none) := ⟨Tryz.zeroValue56⟩
instance : Inf Tryz.prog 56 1 8 (.pointer none) := ⟨inf_of (by kernel_rfl)⟩
instance : Und Tryz.prog 57 (.slice 5) := ⟨Tryz.underlying57⟩
instance : Cel Tryz.prog 57 1 := ⟨by kernel_rfl⟩
instance : Siz Tryz.prog 57 1 := ⟨Tryz.sizeOf57⟩
instance : Agg Tryz.prog 57 false := ⟨Tryz.isAgg57⟩
instance : Zer Tryz.prog 57 (.slice none 0 0) := ⟨Tryz.zeroValue57⟩
instance : Inf Tryz.prog 57 1 24 (.slice none 0 0) := ⟨inf_of (by kernel_rfl)⟩
instance : Cel Tryz.prog 58 2 := ⟨by kernel_rfl⟩
instance : Siz Tryz.prog 58 2 := ⟨Tryz.sizeOf58⟩
instance : Agg Tryz.prog 58 true := ⟨Tryz.isAgg58⟩
instance : Zer Tryz.prog 58 (.agg #[.pointer none, .slice none 0 0]) := ⟨Tryz.zeroValue58⟩
instance : Inf Tryz.prog 58 2 32 (.agg #[.pointer none, .slice none 0 0]) := ⟨inf_of (by kernel_rfl)⟩
instance : Plc Tryz.prog 58 [(0, 1), (1, 1)] := ⟨⟨_, Tryz.runUnderlying58, fun w => by simp [Tryz.sizeOf56, Tryz.sizeOf57]⟩⟩
instance : Fld Tryz.prog 58 0 0 := ⟨fun w a => by simp [Instr.fieldAt, Instr.sureAddr, fieldPlace, Tryz.runUnderlying58, Tryz.sizeOf56]⟩
instance : Fld Tryz.prog 58 1 1 := ⟨fun w a => by simp [Instr.fieldAt, Instr.sureAddr, fieldPlace, Tryz.runUnderlying58, Tryz.sizeOf57]⟩
instance : Cel Tryz.prog 59 2 := ⟨by kernel_rfl⟩
instance : Siz Tryz.prog 59 2 := ⟨Tryz.sizeOf59⟩
instance : Agg Tryz.prog 59 true := ⟨Tryz.isAgg59⟩
instance : Zer Tryz.prog 59 (.agg #[.pointer none, .slice none 0 0]) := ⟨Tryz.zeroValue59⟩
instance : Inf Tryz.prog 59 2 32 (.agg #[.pointer none, .slice none 0 0]) := ⟨inf_of (by kernel_rfl)⟩
instance : Plc Tryz.prog 59 [(0, 1), (1, 1)] := ⟨⟨_, Tryz.runUnderlying59, fun w => by simp [Tryz.sizeOf56, Tryz.sizeOf57]⟩⟩
instance : Fld Tryz.prog 59 0 0 := ⟨fun w a => by simp [Instr.fieldAt, Instr.sureAddr, fieldPlace, Tryz.runUnderlying59, Tryz.sizeOf56]⟩
instance : Fld Tryz.prog 59 1 1 := ⟨fun w a => by simp [Instr.fieldAt, Instr.sureAddr, fieldPlace, Tryz.runUnderlying59, Tryz.sizeOf57]⟩
instance : Cel Tryz.prog 60 1 := ⟨by kernel_rfl⟩
instance : Siz Tryz.prog 60 1 := ⟨Tryz.sizeOf60⟩
instance : Agg Tryz.prog 60 false := ⟨Tryz.isAgg60⟩
instance : Zer Tryz.prog 60 (.nilFunc) := ⟨Tryz.zeroValue60⟩
instance : Inf Tryz.prog 60 1 8 (.nilFunc) := ⟨inf_of (by kernel_rfl)⟩
instance : Ifc Tryz.prog 61 := ⟨⟨_, Tryz.underlying61⟩⟩
instance : Cel Tryz.prog 61 1 := ⟨by kernel_rfl⟩
instance : Siz Tryz.prog 61 1 := ⟨Tryz.sizeOf61⟩
instance : Agg Tryz.prog 61 false := ⟨Tryz.isAgg61⟩
instance : Zer Tryz.prog 61 (.nilIface) := ⟨Tryz.zeroValue61⟩
instance : Inf Tryz.prog 61 1 16 (.nilIface) := ⟨inf_of (by kernel_rfl)⟩
instance : Ifc Tryz.prog 62 := ⟨⟨_, Tryz.underlying62⟩⟩
instance : Cel Tryz.prog 62 1 := ⟨by kernel_rfl⟩
instance : Siz Tryz.prog 62 1 := ⟨Tryz.sizeOf62⟩
instance : Agg Tryz.prog 62 false := ⟨Tryz.isAgg62⟩
instance : Zer Tryz.prog 62 (.nilIface) := ⟨Tryz.zeroValue62⟩
instance : Inf Tryz.prog 62 1 16 (.nilIface) := ⟨inf_of (by kernel_rfl)⟩
instance : Cel Tryz.prog 63 1 := ⟨by kernel_rfl⟩
instance : Siz Tryz.prog 63 1 := ⟨Tryz.sizeOf63⟩
instance : Cel Tryz.prog 64 1 := ⟨by kernel_rfl⟩
instance : Siz Tryz.prog 64 1 := ⟨Tryz.sizeOf64⟩
instance : Agg Tryz.prog 64 false := ⟨Tryz.isAgg64⟩
instance : Zer Tryz.prog 64 (.nilFunc) := ⟨Tryz.zeroValue64⟩
instance : Inf Tryz.prog 64 1 8 (.nilFunc) := ⟨inf_of (by kernel_rfl)⟩
instance : Cel Tryz.prog 65 1 := ⟨by kernel_rfl⟩
instance : Siz Tryz.prog 65 1 := ⟨Tryz.sizeOf65⟩
instance : Agg Tryz.prog 65 false := ⟨Tryz.isAgg65⟩
instance : Zer Tryz.prog 65 (.nilFunc) := ⟨Tryz.zeroValue65⟩
instance : Inf Tryz.prog 65 1 8 (.nilFunc) := ⟨inf_of (by kernel_rfl)⟩
instance : Cel Tryz.prog 66 1 := ⟨by kernel_rfl⟩
instance : Siz Tryz.prog 66 1 := ⟨Tryz.sizeOf66⟩
instance : Agg Tryz.prog 66 false := ⟨Tryz.isAgg66⟩
instance : Zer Tryz.prog 66 (.nilFunc) := ⟨Tryz.zeroValue66⟩
instance : Inf Tryz.prog 66 1 8 (.nilFunc) := ⟨inf_of (by kernel_rfl)⟩
instance : Cel Tryz.prog 67 1 := ⟨by kernel_rfl⟩
instance : Siz Tryz.prog 67 1 := ⟨Tryz.sizeOf67⟩
instance : Cel Tryz.prog 68 1 := ⟨by kernel_rfl⟩
instance : Siz Tryz.prog 68 1 := ⟨Tryz.sizeOf68⟩
instance : Agg Tryz.prog 68 false := ⟨Tryz.isAgg68⟩
instance : Zer Tryz.prog 68 (.nilFunc) := ⟨Tryz.zeroValue68⟩
instance : Inf Tryz.prog 68 1 8 (.nilFunc) := ⟨inf_of (by kernel_rfl)⟩
instance : Cel Tryz.prog 69 1 := ⟨by kernel_rfl⟩
instance : Siz Tryz.prog 69 1 := ⟨Tryz.sizeOf69⟩
instance : Cel Tryz.prog 70 1 := ⟨by kernel_rfl⟩
instance : Siz Tryz.prog 70 1 := ⟨Tryz.sizeOf70⟩
instance : Agg Tryz.prog 70 false := ⟨Tryz.isAgg70⟩
instance : Zer Tryz.prog 70 (.nilFunc) := ⟨Tryz.zeroValue70⟩
instance : Inf Tryz.prog 70 1 8 (.nilFunc) := ⟨inf_of (by kernel_rfl)⟩
instance : Cel Tryz.prog 71 1 := ⟨by kernel_rfl⟩
instance : Siz Tryz.prog 71 1 := ⟨Tryz.sizeOf71⟩
instance : Cel Tryz.prog 72 1 := ⟨by kernel_rfl⟩
instance : Siz Tryz.prog 72 1 := ⟨Tryz.sizeOf72⟩
instance : Agg Tryz.prog 72 false := ⟨Tryz.isAgg72⟩
instance : Zer Tryz.prog 72 (.nilFunc) := ⟨Tryz.zeroValue72⟩
instance : Inf Tryz.prog 72 1 8 (.nilFunc) := ⟨inf_of (by kernel_rfl)⟩
instance : Cel Tryz.prog 73 1 := ⟨by kernel_rfl⟩
instance : Siz Tryz.prog 73 1 := ⟨Tryz.sizeOf73⟩
instance : Agg Tryz.prog 73 false := ⟨Tryz.isAgg73⟩
instance : Zer Tryz.prog 73 (.nilFunc) := ⟨Tryz.zeroValue73⟩
instance : Inf Tryz.prog 73 1 8 (.nilFunc) := ⟨inf_of (by kernel_rfl)⟩
instance : Cel Tryz.prog 74 1 := ⟨by kernel_rfl⟩
instance : Siz Tryz.prog 74 1 := ⟨Tryz.sizeOf74⟩
instance : Agg Tryz.prog 74 false := ⟨Tryz.isAgg74⟩
instance : Zer Tryz.prog 74 (.nilFunc) := ⟨Tryz.zeroValue74⟩
instance : Inf Tryz.prog 74 1 8 (.nilFunc) := ⟨inf_of (by kernel_rfl)⟩
instance : Cel Tryz.prog 75 1 := ⟨by kernel_rfl⟩
instance : Siz Tryz.prog 75 1 := ⟨Tryz.sizeOf75⟩
instance : Agg Tryz.prog 75 false := ⟨Tryz.isAgg75⟩
instance : Zer Tryz.prog 75 (.nilFunc) := ⟨Tryz.zeroValue75⟩
instance : Inf Tryz.prog 75 1 8 (.nilFunc) := ⟨inf_of (by kernel_rfl)⟩
instance : Und Tryz.prog 76 (.int .u64) := ⟨Tryz.underlying76⟩
instance : Cel Tryz.prog 76 1 := ⟨by kernel_rfl⟩
instance : Siz Tryz.prog 76 1 := ⟨Tryz.sizeOf76⟩
instance : Agg Tryz.prog 76 false := ⟨Tryz.isAgg76⟩
instance : Zer Tryz.prog 76 (.int .u64 0) := ⟨Tryz.zeroValue76⟩
instance : Inf Tryz.prog 76 1 8 (.int .u64 0) := ⟨inf_of (by kernel_rfl)⟩
instance : Cel Tryz.prog 77 1 := ⟨by kernel_rfl⟩
instance : Siz Tryz.prog 77 1 := ⟨Tryz.sizeOf77⟩
instance : Agg Tryz.prog 77 false := ⟨Tryz.isAgg77⟩
instance : Zer Tryz.prog 77 (.nilFunc) := ⟨Tryz.zeroValue77⟩
instance : Inf Tryz.prog 77 1 8 (.nilFunc) := ⟨inf_of (by kernel_rfl)⟩
instance : Und Tryz.prog 78 (.pointer 5) := ⟨Tryz.underlying78⟩
instance : Cel Tryz.prog 78 1 := ⟨by kernel_rfl⟩
instance : Siz Tryz.prog 78 1 := ⟨Tryz.sizeOf78⟩
instance : Agg Tryz.prog 78 false := ⟨Tryz.isAgg78⟩
instance : Zer Tryz.prog 78 (.pointer none) := ⟨Tryz.zeroValue78⟩
instance : Inf Tryz.prog 78 1 8 (.pointer none) := ⟨inf_of (by kernel_rfl)⟩
instance : Cel Tryz.prog 79 1 := ⟨by kernel_rfl⟩
instance : Siz Tryz.prog 79 1 := ⟨Tryz.sizeOf79⟩
instance : Agg Tryz.prog 79 false := ⟨Tryz.isAgg79⟩
instance : Zer Tryz.prog 79 (.nilFunc) := ⟨Tryz.zeroValue79⟩
instance : Inf Tryz.prog 79 1 8 (.nilFunc) := ⟨inf_of (by kernel_rfl)⟩
instance : Cel Tryz.prog 80 1 := ⟨by kernel_rfl⟩
instance : Siz Tryz.prog 80 1 := ⟨Tryz.sizeOf80⟩
instance : Cel Tryz.prog 81 1 := ⟨by kernel_rfl⟩
instance : Siz Tryz.prog 81 1 := ⟨Tryz.sizeOf81⟩
instance : Agg Tryz.prog 81 false := ⟨Tryz.isAgg81⟩
instance : Zer Tryz.prog 81 (.nilFunc) := ⟨Tryz.zeroValue81⟩
instance : Inf Tryz.prog 81 1 8 (.nilFunc) := ⟨inf_of (by kernel_rfl)⟩
instance : Cel Tryz.prog 82 1 := ⟨by kernel_rfl⟩
instance : Siz Tryz.prog 82 1 := ⟨Tryz.sizeOf82⟩
instance : Agg Tryz.prog 82 false := ⟨Tryz.isAgg82⟩
instance : Zer Tryz.prog 82 (.nilFunc) := ⟨Tryz.zeroValue82⟩
instance : Inf Tryz.prog 82 1 8 (.nilFunc) := ⟨inf_of (by kernel_rfl)⟩
instance : Und Tryz.prog 83 (.int .i64) := ⟨Tryz.underlying83⟩
instance : Cel Tryz.prog 83 1 := ⟨by kernel_rfl⟩
instance : Siz Tryz.prog 83 1 := ⟨Tryz.sizeOf83⟩
instance : Agg Tryz.prog 83 false := ⟨Tryz.isAgg83⟩
instance : Zer Tryz.prog 83 (.int .i64 0) := ⟨Tryz.zeroValue83⟩
instance : Inf Tryz.prog 83 1 8 (.int .i64 0) := ⟨inf_of (by kernel_rfl)⟩
instance : Cel Tryz.prog 84 1 := ⟨by kernel_rfl⟩
instance : Siz Tryz.prog 84 1 := ⟨Tryz.sizeOf84⟩
instance : Cel Tryz.prog 85 1 := ⟨by kernel_rfl⟩
instance : Siz Tryz.prog 85 1 := ⟨Tryz.sizeOf85⟩
instance : Agg Tryz.prog 85 false := ⟨Tryz.isAgg85⟩
instance : Zer Tryz.prog 85 (.nilFunc) := ⟨Tryz.zeroValue85⟩
instance : Inf Tryz.prog 85 1 8 (.nilFunc) := ⟨inf_of (by kernel_rfl)⟩
instance : Cel Tryz.prog 86 1 := ⟨by kernel_rfl⟩
instance : Siz Tryz.prog 86 1 := ⟨Tryz.sizeOf86⟩
instance : Agg Tryz.prog 86 false := ⟨Tryz.isAgg86⟩
instance : Zer Tryz.prog 86 (.nilFunc) := ⟨Tryz.zeroValue86⟩
instance : Inf Tryz.prog 86 1 8 (.nilFunc) := ⟨inf_of (by kernel_rfl)⟩
instance : Cel Tryz.prog 87 1 := ⟨by kernel_rfl⟩
instance : Siz Tryz.prog 87 1 := ⟨Tryz.sizeOf87⟩
instance : Agg Tryz.prog 87 false := ⟨Tryz.isAgg87⟩
instance : Zer Tryz.prog 87 (.nilFunc) := ⟨Tryz.zeroValue87⟩
instance : Inf Tryz.prog 87 1 8 (.nilFunc) := ⟨inf_of (by kernel_rfl)⟩
instance : Cel Tryz.prog 88 1 := ⟨by kernel_rfl⟩
instance : Siz Tryz.prog 88 1 := ⟨Tryz.sizeOf88⟩
instance : Cel Tryz.prog 89 1 := ⟨by kernel_rfl⟩
instance : Siz Tryz.prog 89 1 := ⟨Tryz.sizeOf89⟩
instance : Agg Tryz.prog 89 false := ⟨Tryz.isAgg89⟩
instance : Zer Tryz.prog 89 (.nilFunc) := ⟨Tryz.zeroValue89⟩
instance : Inf Tryz.prog 89 1 8 (.nilFunc) := ⟨inf_of (by kernel_rfl)⟩
instance : Cel Tryz.prog 90 1 := ⟨by kernel_rfl⟩
instance : Siz Tryz.prog 90 1 := ⟨Tryz.sizeOf90⟩
instance : Agg Tryz.prog 90 false := ⟨Tryz.isAgg90⟩
instance : Zer Tryz.prog 90 (.nilFunc) := ⟨Tryz.zeroValue90⟩
instance : Inf Tryz.prog 90 1 8 (.nilFunc) := ⟨inf_of (by kernel_rfl)⟩
instance : Und Tryz.prog 91 (.int .u32) := ⟨Tryz.underlying91⟩
instance : Cel Tryz.prog 91 1 := ⟨by kernel_rfl⟩
instance : Siz Tryz.prog 91 1 := ⟨Tryz.sizeOf91⟩
instance : Agg Tryz.prog 91 false := ⟨Tryz.isAgg91⟩
instance : Zer Tryz.prog 91 (.int .u32 0) := ⟨Tryz.zeroValue91⟩
instance : Inf Tryz.prog 91 1 4 (.int .u32 0) := ⟨inf_of (by kernel_rfl)⟩
instance : Cel Tryz.prog 92 1 := ⟨by kernel_rfl⟩
instance : Siz Tryz.prog 92 1 := ⟨Tryz.sizeOf92⟩
instance : Agg Tryz.prog 92 false := ⟨Tryz.isAgg92⟩
instance : Zer Tryz.prog 92 (.nilFunc) := ⟨Tryz.zeroValue92⟩
instance : Inf Tryz.prog 92 1 8 (.nilFunc) := ⟨inf_of (by kernel_rfl)⟩
instance : Und Tryz.prog 93 (.int .u64) := ⟨Tryz.underlying93⟩
instance : Cel Tryz.prog 93 1 := ⟨by kernel_rfl⟩
instance : Siz Tryz.prog 93 1 := ⟨Tryz.sizeOf93⟩
instance : Agg Tryz.prog 93 false := ⟨Tryz.isAgg93⟩
instance : Zer Tryz.prog 93 (.int .u64 0) := ⟨Tryz.zeroValue93⟩
instance : Inf Tryz.prog 93 1 8 (.int .u64 0) := ⟨inf_of (by kernel_rfl)⟩
instance : Cel Tryz.prog 94 1 := ⟨by kernel_rfl⟩
instance : Siz Tryz.prog 94 1 := ⟨Tryz.sizeOf94⟩
instance : Agg Tryz.prog 94 false := ⟨Tryz.isAgg94⟩
instance : Zer Tryz.prog 94 (.nilFunc) := ⟨Tryz.zeroValue94⟩
instance : Inf Tryz.prog 94 1 8 (.nilFunc) := ⟨inf_of (by kernel_rfl)⟩
instance : Und Tryz.prog 95 (.array 24 5) := ⟨Tryz.underlying95⟩
instance : Cel Tryz.prog 95 24 := ⟨by kernel_rfl⟩
instance : Siz Tryz.prog 95 24 := ⟨Tryz.sizeOf95⟩
instance : Agg Tryz.prog 95 true := ⟨Tryz.isAgg95⟩
instance : Zer Tryz.prog 95 (.agg #[.int .u8 0, .int .u8 0, .int .u8 0, .int .u8 0, .int .u8 0, .int .u8 0, .int .u8 0, .int .u8 0, .int .u8 0, .int .u8 0, .int .u8 0, .int .u8 0, .int .u8 0, .int .u8 0, .int .u8 0, .int .u8 0, .int .u8 0, .int .u8 0, .int .u8 0, .int .u8 0, .int .u8 0, .int .u8 0, .int .u8 0, .int .u8 0]) := ⟨Tryz.zeroValue95⟩
instance : Inf Tryz.prog 95 24 24 (.agg #[.int .u8 0, .int .u8 0, .int .u8 0, .int .u8 0, .int .u8 0, .int .u8 0, .int .u8 0, .int .u8 0, .int .u8 0, .int .u8 0, .int .u8 0, .int .u8 0, .int .u8 0, .int .u8 0, .int .u8 0, .int .u8 0, .int .u8 0, .int .u8 0, .int .u8 0, .int .u8 0, .int .u8 0, .int .u8 0, .int .u8 0, .int .u8 0]) := ⟨inf_of (by kernel_rfl)⟩
instance : Cel Tryz.prog 96 1 := ⟨by kernel_rfl⟩
instance : Siz Tryz.prog 96 1 := ⟨Tryz.sizeOf96⟩
instance : Agg Tryz.prog 96 false := ⟨Tryz.isAgg96⟩
instance : Zer Tryz.prog 96 (.nilFunc) := ⟨Tryz.zeroValue96⟩
instance : Inf Tryz.prog 96 1 8 (.nilFunc) := ⟨inf_of (by kernel_rfl)⟩
instance : Cel Tryz.prog 97 1 := ⟨by kernel_rfl⟩
instance : Siz Tryz.prog 97 1 := ⟨Tryz.sizeOf97⟩
instance : Cel Tryz.prog 98 1 := ⟨by kernel_rfl⟩
instance : Siz Tryz.prog 98 1 := ⟨Tryz.sizeOf98⟩
instance : Agg Tryz.prog 98 false := ⟨Tryz.isAgg98⟩
instance : Zer Tryz.prog 98 (.nilFunc) := ⟨Tryz.zeroValue98⟩
instance : Inf Tryz.prog 98 1 8 (.nilFunc) := ⟨inf_of (by kernel_rfl)⟩
instance : Und Tryz.prog 99 .unsafePointer := ⟨Tryz.underlying99⟩
instance : Cel Tryz.prog 99 1 := ⟨by kernel_rfl⟩
instance : Siz Tryz.prog 99 1 := ⟨Tryz.sizeOf99⟩
instance : Agg Tryz.prog 99 false := ⟨Tryz.isAgg99⟩
instance : Zer Tryz.prog 99 (.pointer none) := ⟨Tryz.zeroValue99⟩
instance : Inf Tryz.prog 99 1 8 (.pointer none) := ⟨inf_of (by kernel_rfl)⟩
instance : Cel Tryz.prog 100 1 := ⟨by kernel_rfl⟩
instance : Siz Tryz.prog 100 1 := ⟨Tryz.sizeOf100⟩
instance : Agg Tryz.prog 100 false := ⟨Tryz.isAgg100⟩
instance : Zer Tryz.prog 100 (.nilFunc) := ⟨Tryz.zeroValue100⟩
instance : Inf Tryz.prog 100 1 8 (.nilFunc) := ⟨inf_of (by kernel_rfl)⟩
instance : Cel Tryz.prog 101 1 := ⟨by kernel_rfl⟩
instance : Siz Tryz.prog 101 1 := ⟨Tryz.sizeOf101⟩
instance : Agg Tryz.prog 101 false := ⟨Tryz.isAgg101⟩
instance : Zer Tryz.prog 101 (.nilFunc) := ⟨Tryz.zeroValue101⟩
instance : Inf Tryz.prog 101 1 8 (.nilFunc) := ⟨inf_of (by kernel_rfl)⟩
instance : Cel Tryz.prog 102 1 := ⟨by kernel_rfl⟩
instance : Siz Tryz.prog 102 1 := ⟨Tryz.sizeOf102⟩
instance : Agg Tryz.prog 102 false := ⟨Tryz.isAgg102⟩
instance : Zer Tryz.prog 102 (.nilFunc) := ⟨Tryz.zeroValue102⟩
instance : Inf Tryz.prog 102 1 8 (.nilFunc) := ⟨inf_of (by kernel_rfl)⟩
instance : Cel Tryz.prog 103 1 := ⟨by kernel_rfl⟩
instance : Siz Tryz.prog 103 1 := ⟨Tryz.sizeOf103⟩
instance : Agg Tryz.prog 103 false := ⟨Tryz.isAgg103⟩
instance : Zer Tryz.prog 103 (.nilFunc) := ⟨Tryz.zeroValue103⟩
instance : Inf Tryz.prog 103 1 8 (.nilFunc) := ⟨inf_of (by kernel_rfl)⟩
instance : Cel Tryz.prog 104 1 := ⟨by kernel_rfl⟩
instance : Siz Tryz.prog 104 1 := ⟨Tryz.sizeOf104⟩
instance : Agg Tryz.prog 104 false := ⟨Tryz.isAgg104⟩
instance : Zer Tryz.prog 104 (.nilFunc) := ⟨Tryz.zeroValue104⟩
instance : Inf Tryz.prog 104 1 8 (.nilFunc) := ⟨inf_of (by kernel_rfl)⟩
instance : Cel Tryz.prog 105 1 := ⟨by kernel_rfl⟩
instance : Siz Tryz.prog 105 1 := ⟨Tryz.sizeOf105⟩
instance : Agg Tryz.prog 105 false := ⟨Tryz.isAgg105⟩
instance : Zer Tryz.prog 105 (.nilFunc) := ⟨Tryz.zeroValue105⟩
instance : Inf Tryz.prog 105 1 8 (.nilFunc) := ⟨inf_of (by kernel_rfl)⟩
instance : Und Tryz.prog 106 (.int .u64) := ⟨Tryz.underlying106⟩
instance : Cel Tryz.prog 106 1 := ⟨by kernel_rfl⟩
instance : Siz Tryz.prog 106 1 := ⟨Tryz.sizeOf106⟩
instance : Agg Tryz.prog 106 false := ⟨Tryz.isAgg106⟩
instance : Zer Tryz.prog 106 (.int .u64 0) := ⟨Tryz.zeroValue106⟩
instance : Inf Tryz.prog 106 1 8 (.int .u64 0) := ⟨inf_of (by kernel_rfl)⟩
instance : Cel Tryz.prog 107 1 := ⟨by kernel_rfl⟩
instance : Siz Tryz.prog 107 1 := ⟨Tryz.sizeOf107⟩
instance : Agg Tryz.prog 107 false := ⟨Tryz.isAgg107⟩
instance : Zer Tryz.prog 107 (.nilFunc) := ⟨Tryz.zeroValue107⟩
instance : Inf Tryz.prog 107 1 8 (.nilFunc) := ⟨inf_of (by kernel_rfl)⟩
instance : Cel Tryz.prog 108 1 := ⟨by kernel_rfl⟩
instance : Siz Tryz.prog 108 1 := ⟨Tryz.sizeOf108⟩
instance : Agg Tryz.prog 108 false := ⟨Tryz.isAgg108⟩
instance : Zer Tryz.prog 108 (.nilFunc) := ⟨Tryz.zeroValue108⟩
instance : Inf Tryz.prog 108 1 8 (.nilFunc) := ⟨inf_of (by kernel_rfl)⟩
instance : Cel Tryz.prog 109 1 := ⟨by kernel_rfl⟩
instance : Siz Tryz.prog 109 1 := ⟨Tryz.sizeOf109⟩
instance : Agg Tryz.prog 109 false := ⟨Tryz.isAgg109⟩
instance : Zer Tryz.prog 109 (.nilFunc) := ⟨Tryz.zeroValue109⟩
instance : Inf Tryz.prog 109 1 8 (.nilFunc) := ⟨inf_of (by kernel_rfl)⟩
instance : Und Tryz.prog 110 (.pointer 3) := ⟨Tryz.underlying110⟩
instance : Cel Tryz.prog 110 1 := ⟨by kernel_rfl⟩
instance : Siz Tryz.prog 110 1 := ⟨Tryz.sizeOf110⟩
instance : Agg Tryz.prog 110 false := ⟨Tryz.isAgg110⟩
instance : Zer Tryz.prog 110 (.pointer none) := ⟨Tryz.zeroValue110⟩
instance : Inf Tryz.prog 110 1 8 (.pointer none) := ⟨inf_of (by kernel_rfl)⟩
instance : Cel Tryz.prog 111 1 := ⟨by kernel_rfl⟩
instance : Siz Tryz.prog 111 1 := ⟨Tryz.sizeOf111⟩
instance : Agg Tryz.prog 111 false := ⟨Tryz.isAgg111⟩
instance : Zer Tryz.prog 111 (.nilFunc) := ⟨Tryz.zeroValue111⟩
instance : Inf Tryz.prog 111 1 8 (.nilFunc) := ⟨inf_of (by kernel_rfl)⟩
instance : Cel Tryz.prog 112 1 := ⟨by kernel_rfl⟩
instance : Siz Tryz.prog 112 1 := ⟨Tryz.sizeOf112⟩
instance : Agg Tryz.prog 112 false := ⟨Tryz.isAgg112⟩
instance : Zer Tryz.prog 112 (.nilFunc) := ⟨Tryz.zeroValue112⟩
instance : Inf Tryz.prog 112 1 8 (.nilFunc) := ⟨inf_of (by kernel_rfl)⟩
instance : Cel Tryz.prog 113 1 := ⟨by kernel_rfl⟩
instance : Siz Tryz.prog 113 1 := ⟨Tryz.sizeOf113⟩
instance : Agg Tryz.prog 113 false := ⟨Tryz.isAgg113⟩
instance : Zer Tryz.prog 113 (.nilFunc) := ⟨Tryz.zeroValue113⟩
instance : Inf Tryz.prog 113 1 8 (.nilFunc) := ⟨inf_of (by kernel_rfl)⟩
instance : Und Tryz.prog 114 (.array 20 93) := ⟨Tryz.underlying114⟩
instance : Cel Tryz.prog 114 20 := ⟨by kernel_rfl⟩
instance : Siz Tryz.prog 114 20 := ⟨Tryz.sizeOf114⟩
instance : Agg Tryz.prog 114 true := ⟨Tryz.isAgg114⟩
instance : Zer Tryz.prog 114 (.agg #[.int .u64 0, .int .u64 0, .int .u64 0, .int .u64 0, .int .u64 0, .int .u64 0, .int .u64 0, .int .u64 0, .int .u64 0, .int .u64 0, .int .u64 0, .int .u64 0, .int .u64 0, .int .u64 0, .int .u64 0, .int .u64 0, .int .u64 0, .int .u64 0, .int .u64 0, .int .u64 0]) := ⟨Tryz.zeroValue114⟩
instance : Inf Tryz.prog 114 20 160 (.agg #[.int .u64 0, .int .u64 0, .int .u64 0, .int .u64 0, .int .u64 0, .int .u64 0, .int .u64 0, .int .u64 0, .int .u64 0, .int .u64 0, .int .u64 0, .int .u64 0, .int .u64 0, .int .u64 0, .int .u64 0, .int .u64 0, .int .u64 0, .int .u64 0, .int .u64 0, .int .u64 0]) := ⟨inf_of (by kernel_rfl)⟩
instance : Und Tryz.prog 115 (.array 65 5) := ⟨Tryz.underlying115⟩
instance : Cel Tryz.prog 115 65 := ⟨by kernel_rfl⟩
instance : Siz Tryz.prog 115 65 := ⟨Tryz.sizeOf115⟩
instance : Agg Tryz.prog 115 true := ⟨Tryz.isAgg115⟩
instance : Cel Tryz.prog 116 1 := ⟨by kernel_rfl⟩
instance : Siz Tryz.prog 116 1 := ⟨Tryz.sizeOf116⟩
instance : Agg Tryz.prog 116 false := ⟨Tryz.isAgg116⟩
instance : Zer Tryz.prog 116 (.nilFunc) := ⟨Tryz.zeroValue116⟩
instance : Inf Tryz.prog 116 1 8 (.nilFunc) := ⟨inf_of (by kernel_rfl)⟩
instance : Cel Tryz.prog 117 1 := ⟨by kernel_rfl⟩
instance : Siz Tryz.prog 117 1 := ⟨Tryz.sizeOf117⟩
instance : Cel Tryz.prog 118 1 := ⟨by kernel_rfl⟩
instance : Siz Tryz.prog 118 1 := ⟨Tryz.sizeOf118⟩
instance : Agg Tryz.prog 118 false := ⟨Tryz.isAgg118⟩
instance : Zer Tryz.prog 118 (.nilFunc) := ⟨Tryz.zeroValue118⟩
instance : Inf Tryz.prog 118 1 8 (.nilFunc) := ⟨inf_of (by kernel_rfl)⟩
instance : Cel Tryz.prog 119 1 := ⟨by kernel_rfl⟩
instance : Siz Tryz.prog 119 1 := ⟨Tryz.sizeOf119⟩
instance : Agg Tryz.prog 119 false := ⟨Tryz.isAgg119⟩
instance : Zer Tryz.prog 119 (.nilFunc) := ⟨Tryz.zeroValue119⟩
instance : Inf Tryz.prog 119 1 8 (.nilFunc) := ⟨inf_of (by kernel_rfl)⟩
instance : Und Tryz.prog 120 (.int .i64) := ⟨Tryz.underlying120⟩
instance : Cel Tryz.prog 120 1 := ⟨by kernel_rfl⟩
instance : Siz Tryz.prog 120 1 := ⟨Tryz.sizeOf120⟩
instance : Agg Tryz.prog 120 false := ⟨Tryz.isAgg120⟩
instance : Zer Tryz.prog 120 (.int .i64 0) := ⟨Tryz.zeroValue120⟩
instance : Inf Tryz.prog 120 1 8 (.int .i64 0) := ⟨inf_of (by kernel_rfl)⟩
instance : Cel Tryz.prog 121 1 := ⟨by kernel_rfl⟩
instance : Siz Tryz.prog 121 1 := ⟨Tryz.sizeOf121⟩
instance : Cel Tryz.prog 122 1 := ⟨by kernel_rfl⟩
instance : Siz Tryz.prog 122 1 := ⟨Tryz.sizeOf122⟩
instance : Agg Tryz.prog 122 false := ⟨Tryz.isAgg122⟩
instance : Zer Tryz.prog 122 (.nilFunc) := ⟨Tryz.zeroValue122⟩
instance : Inf Tryz.prog 122 1 8 (.nilFunc) := ⟨inf_of (by kernel_rfl)⟩
instance : Und Tryz.prog 123 (.pointer 135) := ⟨Tryz.underlying123⟩
instance : Cel Tryz.prog 123 1 := ⟨by kernel_rfl⟩
instance : Siz Tryz.prog 123 1 := ⟨Tryz.sizeOf123⟩
instance : Agg Tryz.prog 123 false := ⟨Tryz.isAgg123⟩
instance : Zer Tryz.prog 123 (.pointer none) := ⟨Tryz.zeroValue123⟩
instance : Inf Tryz.prog 123 1 8 (.pointer none) := ⟨inf_of (by kernel_rfl)⟩
instance : Cel Tryz.prog 124 1 := ⟨by kernel_rfl⟩
instance : Siz Tryz.prog 124 1 := ⟨Tryz.sizeOf124⟩
instance : Agg Tryz.prog 124 false := ⟨Tryz.isAgg124⟩
instance : Zer Tryz.prog 124 (.nilFunc) := ⟨Tryz.zeroValue124⟩
instance : Inf Tryz.prog 124 1 8 (.nilFunc) := ⟨inf_of (by kernel_rfl)⟩
instance : Cel Tryz.prog 125 1 := ⟨by kernel_rfl⟩
instance : Siz Tryz.prog 125 1 := ⟨Tryz.sizeOf125⟩
instance : Agg Tryz.prog 125 false := ⟨Tryz.isAgg125⟩
instance : Zer Tryz.prog 125 (.nilFunc) := ⟨Tryz.zeroValue125⟩
instance : Inf Tryz.prog 125 1 8 (.nilFunc) := ⟨inf_of (by kernel_rfl)⟩
instance : Und Tryz.prog 126 (.pointer 106) := ⟨Tryz.underlying126⟩
instance : Cel Tryz.prog 126 1 := ⟨by kernel_rfl⟩
instance : Siz Tryz.prog 126 1 := ⟨Tryz.sizeOf126⟩
instance : Agg Tryz.prog 126 false := ⟨Tryz.isAgg126⟩
instance : Zer Tryz.prog 126 (.pointer none) := ⟨Tryz.zeroValue126⟩
instance : Inf Tryz.prog 126 1 8 (.pointer none) := ⟨inf_of (by kernel_rfl)⟩
instance : Cel Tryz.prog 127 1 := ⟨by kernel_rfl⟩
instance : Siz Tryz.prog 127 1 := ⟨Tryz.sizeOf127⟩
instance : Cel Tryz.prog 128 1 := ⟨by kernel_rfl⟩
instance : Siz Tryz.prog 128 1 := ⟨Tryz.sizeOf128⟩
instance : Agg Tryz.prog 128 false := ⟨Tryz.isAgg128⟩
instance : Zer Tryz.prog 128 (.nilFunc) := ⟨Tryz.zeroValue128⟩
instance : Inf Tryz.prog 128 1 8 (.nilFunc) := ⟨inf_of (by kernel_rfl)⟩
instance : Cel Tryz.prog 129 1 := ⟨by kernel_rfl⟩
instance : Siz Tryz.prog 129 1 := ⟨Tryz.sizeOf129⟩
instance : Cel Tryz.prog 130 1 := ⟨by kernel_rfl⟩
instance : Siz Tryz.prog 130 1 := ⟨Tryz.sizeOf130⟩
instance : Agg Tryz.prog 130 false := ⟨Tryz.isAgg130⟩
instance : Zer Tryz.prog 130 (.nilFunc) := ⟨Tryz.zeroValue130⟩
instance : Inf Tryz.prog 130 1 8 (.nilFunc) := ⟨inf_of (by kernel_rfl)⟩
instance : Cel Tryz.prog 131 1 := ⟨by kernel_rfl⟩
instance : Siz Tryz.prog 131 1 := ⟨Tryz.sizeOf131⟩
instance : Agg Tryz.prog 131 false := ⟨Tryz.isAgg131⟩
instance : Zer Tryz.prog 131 (.nilFunc) := ⟨Tryz.zeroValue131⟩
instance : Inf Tryz.prog 131 1 8 (.nilFunc) := ⟨inf_of (by kernel_rfl)⟩
instance : Cel Tryz.prog 132 1 := ⟨by kernel_rfl⟩
instance : Siz Tryz.prog 132 1 := ⟨Tryz.sizeOf132⟩
instance : Agg Tryz.prog 132 false := ⟨Tryz.isAgg132⟩
instance : Zer Tryz.prog 132 (.nilFunc) := ⟨Tryz.zeroValue132⟩
instance : Inf Tryz.prog 132 1 8 (.nilFunc) := ⟨inf_of (by kernel_rfl)⟩
instance : Cel Tryz.prog 133 1 := ⟨by kernel_rfl⟩
instance : Siz Tryz.prog 133 1 := ⟨Tryz.sizeOf133⟩
instance : Agg Tryz.prog 133 false := ⟨Tryz.isAgg133⟩
instance : Zer Tryz.prog 133 (.nilFunc) := ⟨Tryz.zeroValue133⟩
instance : Inf Tryz.prog 133 1 8 (.nilFunc) := ⟨inf_of (by kernel_rfl)⟩
instance : Cel Tryz.prog 134 3 := ⟨by kernel_rfl⟩
instance : Siz Tryz.prog 134 3 := ⟨Tryz.sizeOf134⟩
instance : Agg Tryz.prog 134 true := ⟨Tryz.isAgg134⟩
instance : Zer Tryz.prog 134 (.agg #[.string ⟨#[]⟩, .string ⟨#[]⟩, .nilIface]) := ⟨Tryz.zeroValue134⟩
instance : Inf Tryz.prog 134 3 48 (.agg #[.string ⟨#[]⟩, .string ⟨#[]⟩, .nilIface]) := ⟨inf_of (by kernel_rfl)⟩
instance : Plc Tryz.prog 134 [(0, 1), (1, 1), (2, 1)] := ⟨⟨_, Tryz.runUnderlying134, fun w => by simp [Tryz.sizeOf62, Tryz.sizeOf9]⟩⟩
instance : Fld Tryz.prog 134 0 0 := ⟨fun w a => by simp [Instr.fieldAt, Instr.sureAddr, fieldPlace, Tryz.runUnderlying134, Tryz.sizeOf9]⟩
instance : Fld Tryz.prog 134 1 1 := ⟨fun w a => by simp [Instr.fieldAt, Instr.sureAddr, fieldPlace, Tryz.runUnderlying134, Tryz.sizeOf9]⟩
instance : Fld Tryz.prog 134 2 2 := ⟨fun w a => by simp [Instr.fieldAt, Instr.sureAddr, fieldPlace, Tryz.runUnderlying134, Tryz.sizeOf62]⟩
instance : Cel Tryz.prog 135 3 := ⟨by kernel_rfl⟩
instance : Siz Tryz.prog 135 3 := ⟨Tryz.sizeOf135⟩
instance : Agg Tryz.prog 135 true := ⟨Tryz.isAgg135⟩
instance : Zer Tryz.prog 135 (.agg #[.string ⟨#[]⟩, .string ⟨#[]⟩, .nilIface]) := ⟨Tryz.zeroValue135⟩
instance : Inf Tryz.prog 135 3 48 (.agg #[.string ⟨#[]⟩, .string ⟨#[]⟩, .nilIface]) := ⟨inf_of (by kernel_rfl)⟩
instance : Plc Tryz.prog 135 [(0, 1), (1, 1), (2, 1)] := ⟨⟨_, Tryz.runUnderlying135, fun w => by simp [Tryz.sizeOf62, Tryz.sizeOf9]⟩⟩
instance : Fld Tryz.prog 135 0 0 := ⟨fun w a => by simp [Instr.fieldAt, Instr.sureAddr, fieldPlace, Tryz.runUnderlying135, Tryz.sizeOf9]⟩
instance : Fld Tryz.prog 135 1 1 := ⟨fun w a => by simp [Instr.fieldAt, Instr.sureAddr, fieldPlace, Tryz.runUnderlying135, Tryz.sizeOf9]⟩
instance : Fld Tryz.prog 135 2 2 := ⟨fun w a => by simp [Instr.fieldAt, Instr.sureAddr, fieldPlace, Tryz.runUnderlying135, Tryz.sizeOf62]⟩
instance : Cel Tryz.prog 136 1 := ⟨by kernel_rfl⟩
instance : Siz Tryz.prog 136 1 := ⟨Tryz.sizeOf136⟩
instance : Agg Tryz.prog 136 false := ⟨Tryz.isAgg136⟩
instance : Zer Tryz.prog 136 (.nilFunc) := ⟨Tryz.zeroValue136⟩
instance : Inf Tryz.prog 136 1 8 (.nilFunc) := ⟨inf_of (by kernel_rfl)⟩
instance : Und Tryz.prog 137 (.array 32 5) := ⟨Tryz.underlying137⟩
instance : Cel Tryz.prog 137 32 := ⟨by kernel_rfl⟩
instance : Siz Tryz.prog 137 32 := ⟨Tryz.sizeOf137⟩
instance : Agg Tryz.prog 137 true := ⟨Tryz.isAgg137⟩
instance : Zer Tryz.prog 137 (.agg #[.int .u8 0, .int .u8 0, .int .u8 0, .int .u8 0, .int .u8 0, .int .u8 0, .int .u8 0, .int .u8 0, .int .u8 0, .int .u8 0, .int .u8 0, .int .u8 0, .int .u8 0, .int .u8 0, .int .u8 0, .int .u8 0, .int .u8 0, .int .u8 0, .int .u8 0, .int .u8 0, .int .u8 0, .int .u8 0, .int .u8 0, .int .u8 0, .int .u8 0, .int .u8 0, .int .u8 0, .int .u8 0, .int .u8 0, .int .u8 0, .int .u8 0, .int .u8 0]) := ⟨Tryz.zeroValue137⟩
instance : Inf Tryz.prog 137 32 32 (.agg #[.int .u8 0, .int .u8 0, .int .u8 0, .int .u8 0, .int .u8 0, .int .u8 0, .int .u8 0, .int .u8 0, .int .u8 0, .int .u8 0, .int .u8 0, .int .u8 0, .int .u8 0, .int .u8 0, .int .u8 0, .int .u8 0, .int .u8 0, .int .u8 0, .int .u8 0, .int .u8 0, .int .u8 0, .int .u8 0, .int .u8 0, .int .u8 0, .int .u8 0, .int .u8 0, .int .u8 0, .int .u8 0, .int .u8 0, .int .u8 0, .int .u8 0, .int .u8 0]) := ⟨inf_of (by kernel_rfl)⟩
instance : Und Tryz.prog 138 (.array 64 5) := ⟨Tryz.underlying138⟩
instance : Cel Tryz.prog 138 64 := ⟨by kernel_rfl⟩
instance : Siz Tryz.prog 138 64 := ⟨Tryz.sizeOf138⟩
instance : Agg Tryz.prog 138 true := ⟨Tryz.isAgg138⟩
instance : Und Tryz.prog 139 (.array 256 5) := ⟨Tryz.underlying139⟩
instance : Cel Tryz.prog 139 256 := ⟨by kernel_rfl⟩
instance : Siz Tryz.prog 139 256 := ⟨Tryz.sizeOf139⟩
instance : Agg Tryz.prog 139 true := ⟨Tryz.isAgg139⟩
instance : Cel Tryz.prog 140 2 := ⟨by kernel_rfl⟩
instance : Siz Tryz.prog 140 2 := ⟨Tryz.sizeOf140⟩
instance : Agg Tryz.prog 140 true := ⟨Tryz.isAgg140⟩
instance : Zer Tryz.prog 140 (.agg #[.int .u8 0, .int .u8 0]) := ⟨Tryz.zeroValue140⟩
instance : Inf Tryz.prog 140 2 2 (.agg #[.int .u8 0, .int .u8 0]) := ⟨inf_of (by kernel_rfl)⟩
instance : Plc Tryz.prog 140 [(0, 1), (1, 1)] := ⟨⟨_, Tryz.runUnderlying140, fun w => by simp [Tryz.sizeOf5]⟩⟩
instance : Fld Tryz.prog 140 0 0 := ⟨fun w a => by simp [Instr.fieldAt, Instr.sureAddr, fieldPlace, Tryz.runUnderlying140, Tryz.sizeOf5]⟩
instance : Fld Tryz.prog 140 1 1 := ⟨fun w a => by simp [Instr.fieldAt, Instr.sureAddr, fieldPlace, Tryz.runUnderlying140, Tryz.sizeOf5]⟩
instance : Cel Tryz.prog 141 2 := ⟨by kernel_rfl⟩
instance : Siz Tryz.prog 141 2 := ⟨Tryz.sizeOf141⟩
instance : Agg Tryz.prog 141 true := ⟨Tryz.isAgg141⟩
instance : Zer Tryz.prog 141 (.agg #[.int .u8 0, .int .u8 0]) := ⟨Tryz.zeroValue141⟩
instance : Inf Tryz.prog 141 2 2 (.agg #[.int .u8 0, .int .u8 0]) := ⟨inf_of (by kernel_rfl)⟩
instance : Plc Tryz.prog 141 [(0, 1), (1, 1)] := ⟨⟨_, Tryz.runUnderlying141, fun w => by simp [Tryz.sizeOf5]⟩⟩
instance : Fld Tryz.prog 141 0 0 := ⟨fun w a => by simp [Instr.fieldAt, Instr.sureAddr, fieldPlace, Tryz.runUnderlying141, Tryz.sizeOf5]⟩
instance : Fld Tryz.prog 141 1 1 := ⟨fun w a => by simp [Instr.fieldAt, Instr.sureAddr, fieldPlace, Tryz.runUnderlying141, Tryz.sizeOf5]⟩
instance : Und Tryz.prog 142 (.array 16 141) := ⟨Tryz.underlying142⟩
instance : Cel Tryz.prog 142 32 := ⟨by kernel_rfl⟩
instance : Siz Tryz.prog 142 32 := ⟨Tryz.sizeOf142⟩
instance : Agg Tryz.prog 142 true := ⟨Tryz.isAgg142⟩
instance : Zer Tryz.prog 142 (.agg #[.int .u8 0, .int .u8 0, .int .u8 0, .int .u8 0, .int .u8 0, .int .u8 0, .int .u8 0, .int .u8 0, .int .u8 0, .int .u8 0, .int .u8 0, .int .u8 0, .int .u8 0, .int .u8 0, .int .u8 0, .int .u8 0, .int .u8 0, .int .u8 0, .int .u8 0, .int .u8 0, .int .u8 0, .int .u8 0, .int .u8 0, .int .u8 0, .int .u8 0, .int .u8 0, .int .u8 0, .int .u8 0, .int .u8 0, .int .u8 0, .int .u8 0, .int .u8 0]) := ⟨Tryz.zeroValue142⟩
instance : Inf Tryz.prog 142 32 32 (.agg #[.int .u8 0, .int .u8 0, .int .u8 0, .int .u8 0, .int .u8 0, .int .u8 0, .int .u8 0, .int .u8 0, .int .u8 0, .int .u8 0, .int .u8 0, .int .u8 0, .int .u8 0, .int .u8 0, .int .u8 0, .int .u8 0, .int .u8 0, .int .u8 0, .int .u8 0, .int .u8 0, .int .u8 0, .int .u8 0, .int .u8 0, .int .u8 0, .int .u8 0, .int .u8 0, .int .u8 0, .int .u8 0, .int .u8 0, .int .u8 0, .int .u8 0, .int .u8 0]) := ⟨inf_of (by kernel_rfl)⟩
instance : Und Tryz.prog 143 (.pointer 145) := ⟨Tryz.underlying143⟩
instance : Cel Tryz.prog 143 1 := ⟨by kernel_rfl⟩
instance : Siz Tryz.prog 143 1 := ⟨Tryz.sizeOf143⟩
instance : Agg Tryz.prog 143 false := ⟨Tryz.isAgg143⟩
instance : Zer Tryz.prog 143 (.pointer none) := ⟨Tryz.zeroValue143⟩
instance : Inf Tryz.prog 143 1 8 (.pointer none) := ⟨inf_of (by kernel_rfl)⟩
instance : Cel Tryz.prog 144 1 := ⟨by kernel_rfl⟩
instance : Siz Tryz.prog 144 1 := ⟨Tryz.sizeOf144⟩
instance : Agg Tryz.prog 144 true := ⟨Tryz.isAgg144⟩
instance : Zer Tryz.prog 144 (.agg #[.string ⟨#[]⟩]) := ⟨Tryz.zeroValue144⟩
instance : Inf Tryz.prog 144 1 16 (.agg #[.string ⟨#[]⟩]) := ⟨inf_of (by kernel_rfl)⟩
instance : Plc Tryz.prog 144 [(0, 1)] := ⟨⟨_, Tryz.runUnderlying144, fun w => by simp [Tryz.sizeOf9]⟩⟩
instance : Fld Tryz.prog 144 0 0 := ⟨fun w a => by simp [Instr.fieldAt, Instr.sureAddr, fieldPlace, Tryz.runUnderlying144, Tryz.sizeOf9]⟩
instance : Cel Tryz.prog 145 1 := ⟨by kernel_rfl⟩
instance : Siz Tryz.prog 145 1 := ⟨Tryz.sizeOf145⟩
instance : Agg Tryz.prog 145 true := ⟨Tryz.isAgg145⟩
instance : Zer Tryz.prog 145 (.agg #[.string ⟨#[]⟩]) := ⟨Tryz.zeroValue145⟩
instance : Inf Tryz.prog 145 1 16 (.agg #[.string ⟨#[]⟩]) := ⟨inf_of (by kernel_rfl)⟩
instance : Plc Tryz.prog 145 [(0, 1)] := ⟨⟨_, Tryz.runUnderlying145, fun w => by simp [Tryz.sizeOf9]⟩⟩
instance : Fld Tryz.prog 145 0 0 := ⟨fun w a => by simp [Instr.fieldAt, Instr.sureAddr, fieldPlace, Tryz.runUnderlying145, Tryz.sizeOf9]⟩
instance : Cel Tryz.prog 146 4 := ⟨by kernel_rfl⟩
instance : Siz Tryz.prog 146 4 := ⟨Tryz.sizeOf146⟩
instance : Agg Tryz.prog 146 true := ⟨Tryz.isAgg146⟩
instance : Zer Tryz.prog 146 (.agg #[.pointer none, .pointer none, .pointer none, .string ⟨#[]⟩]) := ⟨Tryz.zeroValue146⟩
instance : Inf Tryz.prog 146 4 40 (.agg #[.pointer none, .pointer none, .pointer none, .string ⟨#[]⟩]) := ⟨inf_of (by kernel_rfl)⟩
instance : Plc Tryz.prog 146 [(0, 1), (1, 1), (2, 1), (3, 1)] := ⟨⟨_, Tryz.runUnderlying146, fun w => by simp [Tryz.sizeOf17, Tryz.sizeOf9]⟩⟩
instance : Fld Tryz.prog 146 0 0 := ⟨fun w a => by simp [Instr.fieldAt, Instr.sureAddr, fieldPlace, Tryz.runUnderlying146, Tryz.sizeOf17]⟩
instance : Fld Tryz.prog 146 1 1 := ⟨fun w a => by simp [Instr.fieldAt, Instr.sureAddr, fieldPlace, Tryz.runUnderlying146, Tryz.sizeOf17]⟩
instance : Fld Tryz.prog 146 2 2 := ⟨fun w a => by simp [Instr.fieldAt, Instr.sureAddr, fieldPlace, Tryz.runUnderlying146, Tryz.sizeOf17]⟩
instance : Fld Tryz.prog 146 3 3 := ⟨fun w a => by simp [Instr.fieldAt, Instr.sureAddr, fieldPlace, Tryz.runUnderlying146, Tryz.sizeOf9]⟩
instance : Cel Tryz.prog 147 4 := ⟨by kernel_rfl⟩
instance : Siz Tryz.prog 147 4 := ⟨Tryz.sizeOf147⟩
instance : Agg Tryz.prog 147 true := ⟨Tryz.isAgg147⟩
instance : Zer Tryz.prog 147 (.agg #[.pointer none, .pointer none, .pointer none, .string ⟨#[]⟩]) := ⟨Tryz.zeroValue147⟩
instance : Inf Tryz.prog 147 4 40 (.agg #[.pointer none, .pointer none, .pointer none, .string ⟨#[]⟩]) := ⟨inf_of (by kernel_rfl)⟩
instance : Plc Tryz.prog 147 [(0, 1), (1, 1), (2, 1), (3, 1)] := ⟨⟨_, Tryz.runUnderlying147, fun w => by simp [Tryz.sizeOf17, Tryz.sizeOf9]⟩⟩
instance : Fld Tryz.prog 147 0 0 := ⟨fun w a => by simp [Instr.fieldAt, Instr.sureAddr, fieldPlace, Tryz.runUnderlying147, Tryz.sizeOf17]⟩
instance : Fld Tryz.prog 147 1 1 := ⟨fun w a => by simp [Instr.fieldAt, Instr.sureAddr, fieldPlace, Tryz.runUnderlying147, Tryz.sizeOf17]⟩
instance : Fld Tryz.prog 147 2 2 := ⟨fun w a => by simp [Instr.fieldAt, Instr.sureAddr, fieldPlace, Tryz.runUnderlying147, Tryz.sizeOf17]⟩
instance : Fld Tryz.prog 147 3 3 := ⟨fun w a => by simp [Instr.fieldAt, Instr.sureAddr, fieldPlace, Tryz.runUnderlying147, Tryz.sizeOf9]⟩
instance : Und Tryz.prog 148 (.array 0 16) := ⟨Tryz.underlying148⟩
instance : Cel Tryz.prog 148 0 := ⟨by kernel_rfl⟩
instance : Siz Tryz.prog 148 0 := ⟨Tryz.sizeOf148⟩
instance : Agg Tryz.prog 148 true := ⟨Tryz.isAgg148⟩
instance : Zer Tryz.prog 148 (.agg #[]) := ⟨Tryz.zeroValue148⟩
instance : Inf Tryz.prog 148 0 0 (.agg #[]) := ⟨inf_of (by kernel_rfl)⟩
instance : Cel Tryz.prog 149 0 := ⟨by kernel_rfl⟩
instance : Siz Tryz.prog 149 0 := ⟨Tryz.sizeOf149⟩
instance : Agg Tryz.prog 149 true := ⟨Tryz.isAgg149⟩
instance : Zer Tryz.prog 149 (.agg #[]) := ⟨Tryz.zeroValue149⟩
instance : Inf Tryz.prog 149 0 0 (.agg #[]) := ⟨inf_of (by kernel_rfl)⟩
instance : Plc Tryz.prog 149 [(0, 0)] := ⟨⟨_, Tryz.runUnderlying149, fun w => by simp [Tryz.sizeOf148]⟩⟩
instance : Cel Tryz.prog 150 0 := ⟨by kernel_rfl⟩
instance : Siz Tryz.prog 150 0 := ⟨Tryz.sizeOf150⟩
instance : Agg Tryz.prog 150 true := ⟨Tryz.isAgg150⟩
instance : Zer Tryz.prog 150 (.agg #[]) := ⟨Tryz.zeroValue150⟩
instance : Inf Tryz.prog 150 0 0 (.agg #[]) := ⟨inf_of (by kernel_rfl)⟩
instance : Plc Tryz.prog 150 [(0, 0)] := ⟨⟨_, Tryz.runUnderlying150, fun w => by simp [Tryz.sizeOf148]⟩⟩
instance : Cel Tryz.prog 151 1 := ⟨by kernel_rfl⟩
instance : Siz Tryz.prog 151 1 := ⟨Tryz.sizeOf151⟩
instance : Agg Tryz.prog 151 false := ⟨Tryz.isAgg151⟩
instance : Zer Tryz.prog 151 (.nilFunc) := ⟨Tryz.zeroValue151⟩
instance : Inf Tryz.prog 151 1 8 (.nilFunc) := ⟨inf_of (by kernel_rfl)⟩
instance : Und Tryz.prog 152 (.int .u8) := ⟨Tryz.underlying152⟩
instance : Cel Tryz.prog 152 1 := ⟨by kernel_rfl⟩
instance : Siz Tryz.prog 152 1 := ⟨Tryz.sizeOf152⟩
instance : Agg Tryz.prog 152 false := ⟨Tryz.isAgg152⟩
instance : Zer Tryz.prog 152 (.int .u8 0) := ⟨Tryz.zeroValue152⟩
instance : Inf Tryz.prog 152 1 1 (.int .u8 0) := ⟨inf_of (by kernel_rfl)⟩
instance : Und Tryz.prog 153 (.int .u8) := ⟨Tryz.underlying153⟩
instance : Cel Tryz.prog 153 1 := ⟨by kernel_rfl⟩
instance : Siz Tryz.prog 153 1 := ⟨Tryz.sizeOf153⟩
instance : Agg Tryz.prog 153 false := ⟨Tryz.isAgg153⟩
instance : Zer Tryz.prog 153 (.int .u8 0) := ⟨Tryz.zeroValue153⟩
instance : Inf Tryz.prog 153 1 1 (.int .u8 0) := ⟨inf_of (by kernel_rfl)⟩
instance : Cel Tryz.prog 154 1 := ⟨by kernel_rfl⟩
instance : Siz Tryz.prog 154 1 := ⟨Tryz.sizeOf154⟩
instance : Agg Tryz.prog 154 false := ⟨Tryz.isAgg154⟩
instance : Zer Tryz.prog 154 (.nilFunc) := ⟨Tryz.zeroValue154⟩
instance : Inf Tryz.prog 154 1 8 (.nilFunc) := ⟨inf_of (by kernel_rfl)⟩
instance : Und Tryz.prog 155 (.int .i32) := ⟨Tryz.underlying155⟩
instance : Cel Tryz.prog 155 1 := ⟨by kernel_rfl⟩
instance : Siz Tryz.prog 155 1 := ⟨Tryz.sizeOf155⟩
instance : Agg Tryz.prog 155 false := ⟨Tryz.isAgg155⟩
instance : Zer Tryz.prog 155 (.int .i32 0) := ⟨Tryz.zeroValue155⟩
instance : Inf Tryz.prog 155 1 4 (.int .i32 0) := ⟨inf_of (by kernel_rfl)⟩
instance : Und Tryz.prog 156 (.int .i32) := ⟨Tryz.underlying156⟩
instance : Cel Tryz.prog 156 1 := ⟨by kernel_rfl⟩
instance : Siz Tryz.prog 156 1 := ⟨Tryz.sizeOf156⟩
instance : Agg Tryz.prog 156 false := ⟨Tryz.isAgg156⟩
instance : Zer Tryz.prog 156 (.int .i32 0) := ⟨Tryz.zeroValue156⟩
instance : Inf Tryz.prog 156 1 4 (.int .i32 0) := ⟨inf_of (by kernel_rfl)⟩
instance : Cel Tryz.prog 157 11 := ⟨by kernel_rfl⟩
instance : Siz Tryz.prog 157 11 := ⟨Tryz.sizeOf157⟩
instance : Agg Tryz.prog 157 true := ⟨Tryz.isAgg157⟩
instance : Zer Tryz.prog 157 (.agg #[.int .u64 0, .int .u64 0, .int .u32 0, .int .u8 0, .int .u8 0, .int .u8 0, .int .u8 0, .nilFunc, .pointer none, .int .i32 0, .int .i32 0]) := ⟨Tryz.zeroValue157⟩
instance : Inf Tryz.prog 157 11 48 (.agg #[.int .u64 0, .int .u64 0, .int .u32 0, .int .u8 0, .int .u8 0, .int .u8 0, .int .u8 0, .nilFunc, .pointer none, .int .i32 0, .int .i32 0]) := ⟨inf_of (by kernel_rfl)⟩
instance : Plc Tryz.prog 157 [(0, 1), (1, 1), (2, 1), (3, 1), (4, 1), (5, 1), (6, 1), (7, 1), (8, 1), (9, 1), (10, 1)] := ⟨⟨_, Tryz.runUnderlying157, fun w => by simp [Tryz.sizeOf12, Tryz.sizeOf152, Tryz.sizeOf153, Tryz.sizeOf154, Tryz.sizeOf155, Tryz.sizeOf156, Tryz.sizeOf5, Tryz.sizeOf78, Tryz.sizeOf91]⟩⟩
instance : Fld Tryz.prog 157 0 0 := ⟨fun w a => by simp [Instr.fieldAt, Instr.sureAddr, fieldPlace, Tryz.runUnderlying157, Tryz.sizeOf12]⟩
instance : Fld Tryz.prog 157 1 1 := ⟨fun w a => by simp [Instr.fieldAt, Instr.sureAddr, fieldPlace, Tryz.runUnderlying157, Tryz.sizeOf12]⟩
instance : Fld Tryz.prog 157 2 2 := ⟨fun w a => by simp [Instr.fieldAt, Instr.sureAddr, fieldPlace, Tryz.runUnderlying157, Tryz.sizeOf91]⟩
instance : Fld Tryz.prog 157 3 3 := ⟨fun w a => by simp [Instr.fieldAt, Instr.sureAddr, fieldPlace, Tryz.runUnderlying157, Tryz.sizeOf152]⟩
instance : Fld Tryz.prog 157 4 4 := ⟨fun w a => by simp [Instr.fieldAt, Instr.sureAddr, fieldPlace, Tryz.runUnderlying157, Tryz.sizeOf5]⟩
instance : Fld Tryz.prog 157 5 5 := ⟨fun w a => by simp [Instr.fieldAt, Instr.sureAddr, fieldPlace, Tryz.runUnderlying157, Tryz.sizeOf5]⟩
instance : Fld Tryz.prog 157 6 6 := ⟨fun w a => by simp [Instr.fieldAt, Instr.sureAddr, fieldPlace, Tryz.runUnderlying157, Tryz.sizeOf153]⟩
instance : Fld Tryz.prog 157 7 7 := ⟨fun w a => by simp [Instr.fieldAt, Instr.sureAddr, fieldPlace, Tryz.runUnderlying157, Tryz.sizeOf154]⟩
instance : Fld Tryz.prog 157 8 8 := ⟨fun w a => by simp [Instr.fieldAt, Instr.sureAddr, fieldPlace, Tryz.runUnderlying157, Tryz.sizeOf78]⟩
instance : Fld Tryz.prog 157 9 9 := ⟨fun w a => by simp [Instr.fieldAt, Instr.sureAddr, fieldPlace, Tryz.runUnderlying157, Tryz.sizeOf155]⟩
instance : Fld Tryz.prog 157 10 10 := ⟨fun w a => by simp [Instr.fieldAt, Instr.sureAddr, fieldPlace, Tryz.runUnderlying157, Tryz.sizeOf156]⟩
instance : Cel Tryz.prog 158 11 := ⟨by kernel_rfl⟩
instance : Siz Tryz.prog 158 11 := ⟨Tryz.sizeOf158⟩
instance : Agg Tryz.prog 158 true := ⟨Tryz.isAgg158⟩
instance : Zer Tryz.prog 158 (.agg #[.int .u64 0, .int .u64 0, .int .u32 0, .int .u8 0, .int .u8 0, .int .u8 0, .int .u8 0, .nilFunc, .pointer none, .int .i32 0, .int .i32 0]) := ⟨Tryz.zeroValue158⟩
instance : Inf Tryz.prog 158 11 48 (.agg #[.int .u64 0, .int .u64 0, .int .u32 0, .int .u8 0, .int .u8 0, .int .u8 0, .int .u8 0, .nilFunc, .pointer none, .int .i32 0, .int .i32 0]) := ⟨inf_of (by kernel_rfl)⟩
instance : Plc Tryz.prog 158 [(0, 1), (1, 1), (2, 1), (3, 1), (4, 1), (5, 1), (6, 1), (7, 1), (8, 1), (9, 1), (10, 1)] := ⟨⟨_, Tryz.runUnderlying158, fun w => by simp [Tryz.sizeOf12, Tryz.sizeOf152, Tryz.sizeOf153, Tryz.sizeOf154, Tryz.sizeOf155, Tryz.sizeOf156, Tryz.sizeOf5, Tryz.sizeOf78, Tryz.sizeOf91]⟩⟩
instance : Fld Tryz.prog 158 0 0 := ⟨fun w a => by simp [Instr.fieldAt, Instr.sureAddr, fieldPlace, Tryz.runUnderlying158, Tryz.sizeOf12]⟩
instance : Fld Tryz.prog 158 1 1 := ⟨fun w a => by simp [Instr.fieldAt, Instr.sureAddr, fieldPlace, Tryz.runUnderlying158, Tryz.sizeOf12]⟩
instance : Fld Tryz.prog 158 2 2 := ⟨fun w a => by simp [Instr.fieldAt, Instr.sureAddr, fieldPlace, Tryz.runUnderlying158, Tryz.sizeOf91]⟩
instance : Fld Tryz.prog 158 3 3 := ⟨fun w a => by simp [Instr.fieldAt, Instr.sureAddr, fieldPlace, Tryz.runUnderlying158, Tryz.sizeOf152]⟩
instance : Fld Tryz.prog 158 4 4 := ⟨fun w a => by simp [Instr.fieldAt, Instr.sureAddr, fieldPlace, Tryz.runUnderlying158, Tryz.sizeOf5]⟩
instance : Fld Tryz.prog 158 5 5 := ⟨fun w a => by simp [Instr.fieldAt, Instr.sureAddr, fieldPlace, Tryz.runUnderlying158, Tryz.sizeOf5]⟩
instance : Fld Tryz.prog 158 6 6 := ⟨fun w a => by simp [Instr.fieldAt, Instr.sureAddr, fieldPlace, Tryz.runUnderlying158, Tryz.sizeOf153]⟩
instance : Fld Tryz.prog 158 7 7 := ⟨fun w a => by simp [Instr.fieldAt, Instr.sureAddr, fieldPlace, Tryz.runUnderlying158, Tryz.sizeOf154]⟩
instance : Fld Tryz.prog 158 8 8 := ⟨fun w a => by simp [Instr.fieldAt, Instr.sureAddr, fieldPlace, Tryz.runUnderlying158, Tryz.sizeOf78]⟩
instance : Fld Tryz.prog 158 9 9 := ⟨fun w a => by simp [Instr.fieldAt, Instr.sureAddr, fieldPlace, Tryz.runUnderlying158, Tryz.sizeOf155]⟩
instance : Fld Tryz.prog 158 10 10 := ⟨fun w a => by simp [Instr.fieldAt, Instr.sureAddr, fieldPlace, Tryz.runUnderlying158, Tryz.sizeOf156]⟩
instance : Mix Tryz.prog := ⟨by decide⟩
end Go.Proofs
