/- The facts on a seat's types, as instances of the abstract logic's classes. No condition. -/
import Derived.Test.YtnjnjbombcefcaaDoorOpen
import Derived.Test.YtnjnjbombcefcaaDoorProg
namespace Go.Proofs
open Go.AL
instance : Cel Tryd.prog 0 1 := ⟨by kernel_rfl⟩
instance : Siz Tryd.prog 0 1 := ⟨Tryd.sizeOf0⟩
instance : Cel Tryd.prog 1 1 := ⟨by kernel_rfl⟩
instance : Siz Tryd.prog 1 1 := ⟨Tryd.sizeOf1⟩
instance : Agg Tryd.prog 1 false := ⟨Tryd.isAgg1⟩
instance : Zer Tryd.prog 1 (.nilFunc) := ⟨Tryd.zeroValue1⟩
instance : Inf Tryd.prog 1 1 8 (.nilFunc) := ⟨inf_of (by kernel_rfl)⟩
instance : Und Tryd.prog 2 (.int .i64) := ⟨Tryd.underlying2⟩
instance : Cel Tryd.prog 2 1 := ⟨by kernel_rfl⟩
instance : Siz Tryd.prog 2 1 := ⟨Tryd.sizeOf2⟩
instance : Agg Tryd.prog 2 false := ⟨Tryd.isAgg2⟩
instance : Zer Tryd.prog 2 (.int .i64 0) := ⟨Tryd.zeroValue2⟩
instance : Inf Tryd.prog 2 1 8 (.int .i64 0) := ⟨inf_of (by kernel_rfl)⟩
instance : Und Tryd.prog 3 (.int .i64) := ⟨Tryd.underlying3⟩
instance : Cel Tryd.prog 3 1 := ⟨by kernel_rfl⟩
instance : Siz Tryd.prog 3 1 := ⟨Tryd.sizeOf3⟩
instance : Agg Tryd.prog 3 false := ⟨Tryd.isAgg3⟩
instance : Zer Tryd.prog 3 (.int .i64 0) := ⟨Tryd.zeroValue3⟩
instance : Inf Tryd.prog 3 1 8 (.int .i64 0) := ⟨inf_of (by kernel_rfl)⟩
instance : Und Tryd.prog 4 .bool := ⟨Tryd.underlying4⟩
instance : Cel Tryd.prog 4 1 := ⟨by kernel_rfl⟩
instance : Siz Tryd.prog 4 1 := ⟨Tryd.sizeOf4⟩
instance : Agg Tryd.prog 4 false := ⟨Tryd.isAgg4⟩
instance : Zer Tryd.prog 4 (.bool false) := ⟨Tryd.zeroValue4⟩
instance : Inf Tryd.prog 4 1 1 (.bool false) := ⟨inf_of (by kernel_rfl)⟩
instance : Und Tryd.prog 5 (.int .u8) := ⟨Tryd.underlying5⟩
instance : Cel Tryd.prog 5 1 := ⟨by kernel_rfl⟩
instance : Siz Tryd.prog 5 1 := ⟨Tryd.sizeOf5⟩
instance : Agg Tryd.prog 5 false := ⟨Tryd.isAgg5⟩
instance : Zer Tryd.prog 5 (.int .u8 0) := ⟨Tryd.zeroValue5⟩
instance : Inf Tryd.prog 5 1 1 (.int .u8 0) := ⟨inf_of (by kernel_rfl)⟩
instance : Und Tryd.prog 6 (.int .u8) := ⟨Tryd.underlying6⟩
instance : Cel Tryd.prog 6 1 := ⟨by kernel_rfl⟩
instance : Siz Tryd.prog 6 1 := ⟨Tryd.sizeOf6⟩
instance : Agg Tryd.prog 6 false := ⟨Tryd.isAgg6⟩
instance : Zer Tryd.prog 6 (.int .u8 0) := ⟨Tryd.zeroValue6⟩
instance : Inf Tryd.prog 6 1 1 (.int .u8 0) := ⟨inf_of (by kernel_rfl)⟩
instance : Cel Tryd.prog 7 4 := ⟨by kernel_rfl⟩
instance : Siz Tryd.prog 7 4 := ⟨Tryd.sizeOf7⟩
instance : Agg Tryd.prog 7 true := ⟨Tryd.isAgg7⟩
instance : Zer Tryd.prog 7 (.agg #[.int .i64 0, .int .i64 0, .bool false, .int .u8 0]) := ⟨Tryd.zeroValue7⟩
instance : Inf Tryd.prog 7 4 24 (.agg #[.int .i64 0, .int .i64 0, .bool false, .int .u8 0]) := ⟨inf_of (by kernel_rfl)⟩
instance : Plc Tryd.prog 7 [(0, 1), (1, 1), (2, 1), (3, 1)] := ⟨⟨_, Tryd.runUnderlying7, fun w => by simp [Tryd.sizeOf2, Tryd.sizeOf3, Tryd.sizeOf4, Tryd.sizeOf6]⟩⟩
instance : Fld Tryd.prog 7 0 0 := ⟨fun w a => by simp [Instr.fieldAt, Instr.sureAddr, fieldPlace, Tryd.runUnderlying7, Tryd.sizeOf2]⟩
instance : Fld Tryd.prog 7 1 1 := ⟨fun w a => by simp [Instr.fieldAt, Instr.sureAddr, fieldPlace, Tryd.runUnderlying7, Tryd.sizeOf3]⟩
instance : Fld Tryd.prog 7 2 2 := ⟨fun w a => by simp [Instr.fieldAt, Instr.sureAddr, fieldPlace, Tryd.runUnderlying7, Tryd.sizeOf4]⟩
instance : Fld Tryd.prog 7 3 3 := ⟨fun w a => by simp [Instr.fieldAt, Instr.sureAddr, fieldPlace, Tryd.runUnderlying7, Tryd.sizeOf6]⟩
instance : Cel Tryd.prog 8 4 := ⟨by kernel_rfl⟩
instance : Siz Tryd.prog 8 4 := ⟨Tryd.sizeOf8⟩
instance : Agg Tryd.prog 8 true := ⟨Tryd.isAgg8⟩
instance : Zer Tryd.prog 8 (.agg #[.int .i64 0, .int .i64 0, .bool false, .int .u8 0]) := ⟨Tryd.zeroValue8⟩
instance : Inf Tryd.prog 8 4 24 (.agg #[.int .i64 0, .int .i64 0, .bool false, .int .u8 0]) := ⟨inf_of (by kernel_rfl)⟩
instance : Plc Tryd.prog 8 [(0, 1), (1, 1), (2, 1), (3, 1)] := ⟨⟨_, Tryd.runUnderlying8, fun w => by simp [Tryd.sizeOf2, Tryd.sizeOf3, Tryd.sizeOf4, Tryd.sizeOf6]⟩⟩
instance : Fld Tryd.prog 8 0 0 := ⟨fun w a => by simp [Instr.fieldAt, Instr.sureAddr, fieldPlace, Tryd.runUnderlying8, Tryd.sizeOf2]⟩
instance : Fld Tryd.prog 8 1 1 := ⟨fun w a => by simp [Instr.fieldAt, Instr.sureAddr, fieldPlace, Tryd.runUnderlying8, Tryd.sizeOf3]⟩
instance : Fld Tryd.prog 8 2 2 := ⟨fun w a => by simp [Instr.fieldAt, Instr.sureAddr, fieldPlace, Tryd.runUnderlying8, Tryd.sizeOf4]⟩
instance : Fld Tryd.prog 8 3 3 := ⟨fun w a => by simp [Instr.fieldAt, Instr.sureAddr, fieldPlace, Tryd.runUnderlying8, Tryd.sizeOf6]⟩
instance : Und Tryd.prog 9 .string := ⟨Tryd.underlying9⟩
instance : Cel Tryd.prog 9 1 := ⟨by kernel_rfl⟩
instance : Siz Tryd.prog 9 1 := ⟨Tryd.sizeOf9⟩
instance : Agg Tryd.prog 9 false := ⟨Tryd.isAgg9⟩
instance : Zer Tryd.prog 9 (.string ⟨#[]⟩) := ⟨Tryd.zeroValue9⟩
instance : Inf Tryd.prog 9 1 16 (.string ⟨#[]⟩) := ⟨inf_of (by kernel_rfl)⟩
instance : Und Tryd.prog 10 .string := ⟨Tryd.underlying10⟩
instance : Cel Tryd.prog 10 1 := ⟨by kernel_rfl⟩
instance : Siz Tryd.prog 10 1 := ⟨Tryd.sizeOf10⟩
instance : Agg Tryd.prog 10 false := ⟨Tryd.isAgg10⟩
instance : Zer Tryd.prog 10 (.string ⟨#[]⟩) := ⟨Tryd.zeroValue10⟩
instance : Inf Tryd.prog 10 1 16 (.string ⟨#[]⟩) := ⟨inf_of (by kernel_rfl)⟩
instance : Und Tryd.prog 11 .string := ⟨Tryd.underlying11⟩
instance : Cel Tryd.prog 11 1 := ⟨by kernel_rfl⟩
instance : Siz Tryd.prog 11 1 := ⟨Tryd.sizeOf11⟩
instance : Agg Tryd.prog 11 false := ⟨Tryd.isAgg11⟩
instance : Zer Tryd.prog 11 (.string ⟨#[]⟩) := ⟨Tryd.zeroValue11⟩
instance : Inf Tryd.prog 11 1 16 (.string ⟨#[]⟩) := ⟨inf_of (by kernel_rfl)⟩
instance : Und Tryd.prog 12 (.int .u64) := ⟨Tryd.underlying12⟩
instance : Cel Tryd.prog 12 1 := ⟨by kernel_rfl⟩
instance : Siz Tryd.prog 12 1 := ⟨Tryd.sizeOf12⟩
instance : Agg Tryd.prog 12 false := ⟨Tryd.isAgg12⟩
instance : Zer Tryd.prog 12 (.int .u64 0) := ⟨Tryd.zeroValue12⟩
instance : Inf Tryd.prog 12 1 8 (.int .u64 0) := ⟨inf_of (by kernel_rfl)⟩
instance : Cel Tryd.prog 13 2 := ⟨by kernel_rfl⟩
instance : Siz Tryd.prog 13 2 := ⟨Tryd.sizeOf13⟩
instance : Agg Tryd.prog 13 true := ⟨Tryd.isAgg13⟩
instance : Zer Tryd.prog 13 (.agg #[.string ⟨#[]⟩, .int .u64 0]) := ⟨Tryd.zeroValue13⟩
instance : Inf Tryd.prog 13 2 24 (.agg #[.string ⟨#[]⟩, .int .u64 0]) := ⟨inf_of (by kernel_rfl)⟩
instance : Plc Tryd.prog 13 [(0, 1), (1, 1)] := ⟨⟨_, Tryd.runUnderlying13, fun w => by simp [Tryd.sizeOf12, Tryd.sizeOf9]⟩⟩
instance : Fld Tryd.prog 13 0 0 := ⟨fun w a => by simp [Instr.fieldAt, Instr.sureAddr, fieldPlace, Tryd.runUnderlying13, Tryd.sizeOf9]⟩
instance : Fld Tryd.prog 13 1 1 := ⟨fun w a => by simp [Instr.fieldAt, Instr.sureAddr, fieldPlace, Tryd.runUnderlying13, Tryd.sizeOf12]⟩
instance : Cel Tryd.prog 14 2 := ⟨by kernel_rfl⟩
instance : Siz Tryd.prog 14 2 := ⟨Tryd.sizeOf14⟩
instance : Agg Tryd.prog 14 true := ⟨Tryd.isAgg14⟩
instance : Zer Tryd.prog 14 (.agg #[.string ⟨#[]⟩, .int .u64 0]) := ⟨Tryd.zeroValue14⟩
instance : Inf Tryd.prog 14 2 24 (.agg #[.string ⟨#[]⟩, .int .u64 0]) := ⟨inf_of (by kernel_rfl)⟩
instance : Plc Tryd.prog 14 [(0, 1), (1, 1)] := ⟨⟨_, Tryd.runUnderlying14, fun w => by simp [Tryd.sizeOf12, Tryd.sizeOf9]⟩⟩
instance : Fld Tryd.prog 14 0 0 := ⟨fun w a => by simp [Instr.fieldAt, Instr.sureAddr, fieldPlace, Tryd.runUnderlying14, Tryd.sizeOf9]⟩
instance : Fld Tryd.prog 14 1 1 := ⟨fun w a => by simp [Instr.fieldAt, Instr.sureAddr, fieldPlace, Tryd.runUnderlying14, Tryd.sizeOf12]⟩
instance : Und Tryd.prog 15 (.pointer 210) := ⟨Tryd.underlying15⟩
instance : Cel Tryd.prog 15 1 := ⟨by kernel_rfl⟩
instance : Siz Tryd.prog 15 1 := ⟨Tryd.sizeOf15⟩
instance : Agg Tryd.prog 15 false := ⟨Tryd.isAgg15⟩
instance : Zer Tryd.prog 15 (.pointer none) := ⟨Tryd.zeroValue15⟩
instance : Inf Tryd.prog 15 1 8 (.pointer none) := ⟨inf_of (by kernel_rfl)⟩
instance : Und Tryd.prog 16 (.pointer 213) := ⟨Tryd.underlying16⟩
instance : Cel Tryd.prog 16 1 := ⟨by kernel_rfl⟩
instance : Siz Tryd.prog 16 1 := ⟨Tryd.sizeOf16⟩
instance : Agg Tryd.prog 16 false := ⟨Tryd.isAgg16⟩
instance : Zer Tryd.prog 16 (.pointer none) := ⟨Tryd.zeroValue16⟩
instance : Inf Tryd.prog 16 1 8 (.pointer none) := ⟨inf_of (by kernel_rfl)⟩
instance : Und Tryd.prog 17 (.pointer 220) := ⟨Tryd.underlying17⟩
instance : Cel Tryd.prog 17 1 := ⟨by kernel_rfl⟩
instance : Siz Tryd.prog 17 1 := ⟨Tryd.sizeOf17⟩
instance : Agg Tryd.prog 17 false := ⟨Tryd.isAgg17⟩
instance : Zer Tryd.prog 17 (.pointer none) := ⟨Tryd.zeroValue17⟩
instance : Inf Tryd.prog 17 1 8 (.pointer none) := ⟨inf_of (by kernel_rfl)⟩
instance : Cel Tryd.prog 18 1 := ⟨by kernel_rfl⟩
instance : Siz Tryd.prog 18 1 := ⟨Tryd.sizeOf18⟩
instance : Agg Tryd.prog 18 true := ⟨Tryd.isAgg18⟩
instance : Zer Tryd.prog 18 (.agg #[.pointer none]) := ⟨Tryd.zeroValue18⟩
instance : Inf Tryd.prog 18 1 8 (.agg #[.pointer none]) := ⟨inf_of (by kernel_rfl)⟩
instance : Plc Tryd.prog 18 [(0, 1)] := ⟨⟨_, Tryd.runUnderlying18, fun w => by simp [Tryd.sizeOf17]⟩⟩
instance : Fld Tryd.prog 18 0 0 := ⟨fun w a => by simp [Instr.fieldAt, Instr.sureAddr, fieldPlace, Tryd.runUnderlying18, Tryd.sizeOf17]⟩
instance : Cel Tryd.prog 19 1 := ⟨by kernel_rfl⟩
instance : Siz Tryd.prog 19 1 := ⟨Tryd.sizeOf19⟩
instance : Agg Tryd.prog 19 true := ⟨Tryd.isAgg19⟩
instance : Zer Tryd.prog 19 (.agg #[.pointer none]) := ⟨Tryd.zeroValue19⟩
instance : Inf Tryd.prog 19 1 8 (.agg #[.pointer none]) := ⟨inf_of (by kernel_rfl)⟩
instance : Plc Tryd.prog 19 [(0, 1)] := ⟨⟨_, Tryd.runUnderlying19, fun w => by simp [Tryd.sizeOf17]⟩⟩
instance : Fld Tryd.prog 19 0 0 := ⟨fun w a => by simp [Instr.fieldAt, Instr.sureAddr, fieldPlace, Tryd.runUnderlying19, Tryd.sizeOf17]⟩
instance : Cel Tryd.prog 20 1 := ⟨by kernel_rfl⟩
instance : Siz Tryd.prog 20 1 := ⟨Tryd.sizeOf20⟩
instance : Agg Tryd.prog 20 false := ⟨Tryd.isAgg20⟩
instance : Zer Tryd.prog 20 (.nilIface) := ⟨Tryd.zeroValue20⟩
instance : Inf Tryd.prog 20 1 16 (.nilIface) := ⟨inf_of (by kernel_rfl)⟩
instance : Und Tryd.prog 21 (.int .i32) := ⟨Tryd.underlying21⟩
instance : Cel Tryd.prog 21 1 := ⟨by kernel_rfl⟩
instance : Siz Tryd.prog 21 1 := ⟨Tryd.sizeOf21⟩
instance : Agg Tryd.prog 21 false := ⟨Tryd.isAgg21⟩
instance : Zer Tryd.prog 21 (.int .i32 0) := ⟨Tryd.zeroValue21⟩
instance : Inf Tryd.prog 21 1 4 (.int .i32 0) := ⟨inf_of (by kernel_rfl)⟩
instance : Und Tryd.prog 22 (.slice 35) := ⟨Tryd.underlying22⟩
instance : Cel Tryd.prog 22 1 := ⟨by kernel_rfl⟩
instance : Siz Tryd.prog 22 1 := ⟨Tryd.sizeOf22⟩
instance : Agg Tryd.prog 22 false := ⟨Tryd.isAgg22⟩
instance : Zer Tryd.prog 22 (.slice none 0 0) := ⟨Tryd.zeroValue22⟩
instance : Inf Tryd.prog 22 1 24 (.slice none 0 0) := ⟨inf_of (by kernel_rfl)⟩
instance : Und Tryd.prog 23 (.int .i64) := ⟨Tryd.underlying23⟩
instance : Cel Tryd.prog 23 1 := ⟨by kernel_rfl⟩
instance : Siz Tryd.prog 23 1 := ⟨Tryd.sizeOf23⟩
instance : Agg Tryd.prog 23 false := ⟨Tryd.isAgg23⟩
instance : Zer Tryd.prog 23 (.int .i64 0) := ⟨Tryd.zeroValue23⟩
instance : Inf Tryd.prog 23 1 8 (.int .i64 0) := ⟨inf_of (by kernel_rfl)⟩
instance : Cel Tryd.prog 24 1 := ⟨by kernel_rfl⟩
instance : Siz Tryd.prog 24 1 := ⟨Tryd.sizeOf24⟩
instance : Cel Tryd.prog 25 1 := ⟨by kernel_rfl⟩
instance : Siz Tryd.prog 25 1 := ⟨Tryd.sizeOf25⟩
instance : Agg Tryd.prog 25 false := ⟨Tryd.isAgg25⟩
instance : Zer Tryd.prog 25 (.nilFunc) := ⟨Tryd.zeroValue25⟩
instance : Inf Tryd.prog 25 1 8 (.nilFunc) := ⟨inf_of (by kernel_rfl)⟩
instance : Cel Tryd.prog 26 1 := ⟨by kernel_rfl⟩
instance : Siz Tryd.prog 26 1 := ⟨Tryd.sizeOf26⟩
instance : Cel Tryd.prog 27 1 := ⟨by kernel_rfl⟩
instance : Siz Tryd.prog 27 1 := ⟨Tryd.sizeOf27⟩
instance : Agg Tryd.prog 27 false := ⟨Tryd.isAgg27⟩
instance : Zer Tryd.prog 27 (.nilFunc) := ⟨Tryd.zeroValue27⟩
instance : Inf Tryd.prog 27 1 8 (.nilFunc) := ⟨inf_of (by kernel_rfl)⟩
instance : Cel Tryd.prog 28 1 := ⟨by kernel_rfl⟩
instance : Siz Tryd.prog 28 1 := ⟨Tryd.sizeOf28⟩
instance : Agg Tryd.prog 28 false := ⟨Tryd.isAgg28⟩
instance : Zer Tryd.prog 28 (.nilFunc) := ⟨Tryd.zeroValue28⟩
instance : Inf Tryd.prog 28 1 8 (.nilFunc) := ⟨inf_of (by kernel_rfl)⟩
instance : Cel Tryd.prog 29 1 := ⟨by kernel_rfl⟩
instance : Siz Tryd.prog 29 1 := ⟨Tryd.sizeOf29⟩
instance : Agg Tryd.prog 29 false := ⟨Tryd.isAgg29⟩
instance : Zer Tryd.prog 29 (.nilFunc) := ⟨Tryd.zeroValue29⟩
instance : Inf Tryd.prog 29 1 8 (.nilFunc) := ⟨inf_of (by kernel_rfl)⟩
instance : Cel Tryd.prog 30 1 := ⟨by kernel_rfl⟩
instance : Siz Tryd.prog 30 1 := ⟨Tryd.sizeOf30⟩
instance : Agg Tryd.prog 30 false := ⟨Tryd.isAgg30⟩
instance : Zer Tryd.prog 30 (.nilFunc) := ⟨Tryd.zeroValue30⟩
instance : Inf Tryd.prog 30 1 8 (.nilFunc) := ⟨inf_of (by kernel_rfl)⟩
instance : Cel Tryd.prog 31 1 := ⟨by kernel_rfl⟩
instance : Siz Tryd.prog 31 1 := ⟨Tryd.sizeOf31⟩
instance : Agg Tryd.prog 31 false := ⟨Tryd.isAgg31⟩
instance : Zer Tryd.prog 31 (.nilFunc) := ⟨Tryd.zeroValue31⟩
instance : Inf Tryd.prog 31 1 8 (.nilFunc) := ⟨inf_of (by kernel_rfl)⟩
instance : Cel Tryd.prog 32 3 := ⟨by kernel_rfl⟩
instance : Siz Tryd.prog 32 3 := ⟨Tryd.sizeOf32⟩
instance : Agg Tryd.prog 32 true := ⟨Tryd.isAgg32⟩
instance : Zer Tryd.prog 32 (.agg #[.int .i64 0, .int .i64 0, .string ⟨#[]⟩]) := ⟨Tryd.zeroValue32⟩
instance : Inf Tryd.prog 32 3 32 (.agg #[.int .i64 0, .int .i64 0, .string ⟨#[]⟩]) := ⟨inf_of (by kernel_rfl)⟩
instance : Plc Tryd.prog 32 [(0, 1), (1, 1), (2, 1)] := ⟨⟨_, Tryd.runUnderlying32, fun w => by simp [Tryd.sizeOf2, Tryd.sizeOf3, Tryd.sizeOf9]⟩⟩
instance : Fld Tryd.prog 32 0 0 := ⟨fun w a => by simp [Instr.fieldAt, Instr.sureAddr, fieldPlace, Tryd.runUnderlying32, Tryd.sizeOf3]⟩
instance : Fld Tryd.prog 32 1 1 := ⟨fun w a => by simp [Instr.fieldAt, Instr.sureAddr, fieldPlace, Tryd.runUnderlying32, Tryd.sizeOf2]⟩
instance : Fld Tryd.prog 32 2 2 := ⟨fun w a => by simp [Instr.fieldAt, Instr.sureAddr, fieldPlace, Tryd.runUnderlying32, Tryd.sizeOf9]⟩
instance : Cel Tryd.prog 33 3 := ⟨by kernel_rfl⟩
instance : Siz Tryd.prog 33 3 := ⟨Tryd.sizeOf33⟩
instance : Agg Tryd.prog 33 true := ⟨Tryd.isAgg33⟩
instance : Zer Tryd.prog 33 (.agg #[.int .i64 0, .int .i64 0, .string ⟨#[]⟩]) := ⟨Tryd.zeroValue33⟩
instance : Inf Tryd.prog 33 3 32 (.agg #[.int .i64 0, .int .i64 0, .string ⟨#[]⟩]) := ⟨inf_of (by kernel_rfl)⟩
instance : Plc Tryd.prog 33 [(0, 1), (1, 1), (2, 1)] := ⟨⟨_, Tryd.runUnderlying33, fun w => by simp [Tryd.sizeOf2, Tryd.sizeOf3, Tryd.sizeOf9]⟩⟩
instance : Fld Tryd.prog 33 0 0 := ⟨fun w a => by simp [Instr.fieldAt, Instr.sureAddr, fieldPlace, Tryd.runUnderlying33, Tryd.sizeOf3]⟩
instance : Fld Tryd.prog 33 1 1 := ⟨fun w a => by simp [Instr.fieldAt, Instr.sureAddr, fieldPlace, Tryd.runUnderlying33, Tryd.sizeOf2]⟩
instance : Fld Tryd.prog 33 2 2 := ⟨fun w a => by simp [Instr.fieldAt, Instr.sureAddr, fieldPlace, Tryd.runUnderlying33, Tryd.sizeOf9]⟩
instance : Cel Tryd.prog 34 8 := ⟨by kernel_rfl⟩
instance : Siz Tryd.prog 34 8 := ⟨Tryd.sizeOf34⟩
instance : Agg Tryd.prog 34 true := ⟨Tryd.isAgg34⟩
instance : Zer Tryd.prog 34 (.agg #[.int .i64 0, .int .i64 0, .int .i64 0, .string ⟨#[]⟩, .string ⟨#[]⟩, .slice none 0 0, .int .i64 0, .int .i64 0]) := ⟨Tryd.zeroValue34⟩
instance : Inf Tryd.prog 34 8 96 (.agg #[.int .i64 0, .int .i64 0, .int .i64 0, .string ⟨#[]⟩, .string ⟨#[]⟩, .slice none 0 0, .int .i64 0, .int .i64 0]) := ⟨inf_of (by kernel_rfl)⟩
instance : Plc Tryd.prog 34 [(0, 1), (1, 3), (4, 1), (5, 1), (6, 1), (7, 1)] := ⟨⟨_, Tryd.runUnderlying34, fun w => by simp [Tryd.sizeOf22, Tryd.sizeOf3, Tryd.sizeOf33, Tryd.sizeOf9]⟩⟩
instance : Fld Tryd.prog 34 0 0 := ⟨fun w a => by simp [Instr.fieldAt, Instr.sureAddr, fieldPlace, Tryd.runUnderlying34, Tryd.sizeOf3]⟩
instance : Fld Tryd.prog 34 1 1 := ⟨fun w a => by simp [Instr.fieldAt, Instr.sureAddr, fieldPlace, Tryd.runUnderlying34, Tryd.sizeOf33]⟩
instance : Fld Tryd.prog 34 2 4 := ⟨fun w a => by simp [Instr.fieldAt, Instr.sureAddr, fieldPlace, Tryd.runUnderlying34, Tryd.sizeOf9]⟩
instance : Fld Tryd.prog 34 3 5 := ⟨fun w a => by simp [Instr.fieldAt, Instr.sureAddr, fieldPlace, Tryd.runUnderlying34, Tryd.sizeOf22]⟩
instance : Fld Tryd.prog 34 4 6 := ⟨fun w a => by simp [Instr.fieldAt, Instr.sureAddr, fieldPlace, Tryd.runUnderlying34, Tryd.sizeOf3]⟩
instance : Fld Tryd.prog 34 5 7 := ⟨fun w a => by simp [Instr.fieldAt, Instr.sureAddr, fieldPlace, Tryd.runUnderlying34, Tryd.sizeOf3]⟩
instance : Cel Tryd.prog 35 8 := ⟨by kernel_rfl⟩
instance : Siz Tryd.prog 35 8 := ⟨Tryd.sizeOf35⟩
instance : Agg Tryd.prog 35 true := ⟨Tryd.isAgg35⟩
instance : Zer Tryd.prog 35 (.agg #[.int .i64 0, .int .i64 0, .int .i64 0, .string ⟨#[]⟩, .string ⟨#[]⟩, .slice none 0 0, .int .i64 0, .int .i64 0]) := ⟨Tryd.zeroValue35⟩
instance : Inf Tryd.prog 35 8 96 (.agg #[.int .i64 0, .int .i64 0, .int .i64 0, .string ⟨#[]⟩, .string ⟨#[]⟩, .slice none 0 0, .int .i64 0, .int .i64 0]) := ⟨inf_of (by kernel_rfl)⟩
instance : Plc Tryd.prog 35 [(0, 1), (1, 3), (4, 1), (5, 1), (6, 1), (7, 1)] := ⟨⟨_, Tryd.runUnderlying35, fun w => by simp [Tryd.sizeOf22, Tryd.sizeOf3, Tryd.sizeOf33, Tryd.sizeOf9]⟩⟩
instance : Fld Tryd.prog 35 0 0 := ⟨fun w a => by simp [Instr.fieldAt, Instr.sureAddr, fieldPlace, Tryd.runUnderlying35, Tryd.sizeOf3]⟩
instance : Fld Tryd.prog 35 1 1 := ⟨fun w a => by simp [Instr.fieldAt, Instr.sureAddr, fieldPlace, Tryd.runUnderlying35, Tryd.sizeOf33]⟩
instance : Fld Tryd.prog 35 2 4 := ⟨fun w a => by simp [Instr.fieldAt, Instr.sureAddr, fieldPlace, Tryd.runUnderlying35, Tryd.sizeOf9]⟩
instance : Fld Tryd.prog 35 3 5 := ⟨fun w a => by simp [Instr.fieldAt, Instr.sureAddr, fieldPlace, Tryd.runUnderlying35, Tryd.sizeOf22]⟩
instance : Fld Tryd.prog 35 4 6 := ⟨fun w a => by simp [Instr.fieldAt, Instr.sureAddr, fieldPlace, Tryd.runUnderlying35, Tryd.sizeOf3]⟩
instance : Fld Tryd.prog 35 5 7 := ⟨fun w a => by simp [Instr.fieldAt, Instr.sureAddr, fieldPlace, Tryd.runUnderlying35, Tryd.sizeOf3]⟩
instance : Cel Tryd.prog 36 1 := ⟨by kernel_rfl⟩
instance : Siz Tryd.prog 36 1 := ⟨Tryd.sizeOf36⟩
instance : Agg Tryd.prog 36 false := ⟨Tryd.isAgg36⟩
instance : Zer Tryd.prog 36 (.nilFunc) := ⟨Tryd.zeroValue36⟩
instance : Inf Tryd.prog 36 1 8 (.nilFunc) := ⟨inf_of (by kernel_rfl)⟩
instance : Cel Tryd.prog 37 1 := ⟨by kernel_rfl⟩
instance : Siz Tryd.prog 37 1 := ⟨Tryd.sizeOf37⟩
instance : Agg Tryd.prog 37 false := ⟨Tryd.isAgg37⟩
instance : Zer Tryd.prog 37 (.nilFunc) := ⟨Tryd.zeroValue37⟩
instance : Inf Tryd.prog 37 1 8 (.nilFunc) := ⟨inf_of (by kernel_rfl)⟩
instance : Cel Tryd.prog 38 1 := ⟨by kernel_rfl⟩
instance : Siz Tryd.prog 38 1 := ⟨Tryd.sizeOf38⟩
instance : Cel Tryd.prog 39 1 := ⟨by kernel_rfl⟩
instance : Siz Tryd.prog 39 1 := ⟨Tryd.sizeOf39⟩
instance : Agg Tryd.prog 39 false := ⟨Tryd.isAgg39⟩
instance : Zer Tryd.prog 39 (.nilFunc) := ⟨Tryd.zeroValue39⟩
instance : Inf Tryd.prog 39 1 8 (.nilFunc) := ⟨inf_of (by kernel_rfl)⟩
instance : Cel Tryd.prog 40 6 := ⟨by kernel_rfl⟩
instance : Siz Tryd.prog 40 6 := ⟨Tryd.sizeOf40⟩
instance : Agg Tryd.prog 40 true := ⟨Tryd.isAgg40⟩
instance : Zer Tryd.prog 40 (.agg #[.int .i64 0, .int .i64 0, .string ⟨#[]⟩, .int .i64 0, .int .i64 0, .string ⟨#[]⟩]) := ⟨Tryd.zeroValue40⟩
instance : Inf Tryd.prog 40 6 64 (.agg #[.int .i64 0, .int .i64 0, .string ⟨#[]⟩, .int .i64 0, .int .i64 0, .string ⟨#[]⟩]) := ⟨inf_of (by kernel_rfl)⟩
instance : Plc Tryd.prog 40 [(0, 1), (1, 1), (2, 1), (3, 3)] := ⟨⟨_, Tryd.runUnderlying40, fun w => by simp [Tryd.sizeOf2, Tryd.sizeOf3, Tryd.sizeOf33, Tryd.sizeOf9]⟩⟩
instance : Fld Tryd.prog 40 0 0 := ⟨fun w a => by simp [Instr.fieldAt, Instr.sureAddr, fieldPlace, Tryd.runUnderlying40, Tryd.sizeOf3]⟩
instance : Fld Tryd.prog 40 1 1 := ⟨fun w a => by simp [Instr.fieldAt, Instr.sureAddr, fieldPlace, Tryd.runUnderlying40, Tryd.sizeOf2]⟩
instance : Fld Tryd.prog 40 2 2 := ⟨fun w a => by simp [Instr.fieldAt, Instr.sureAddr, fieldPlace, Tryd.runUnderlying40, Tryd.sizeOf9]⟩
instance : Fld Tryd.prog 40 3 3 := ⟨fun w a => by simp [Instr.fieldAt, Instr.sureAddr, fieldPlace, Tryd.runUnderlying40, Tryd.sizeOf33]⟩
instance : Cel Tryd.prog 41 6 := ⟨by kernel_rfl⟩
instance : Siz Tryd.prog 41 6 := ⟨Tryd.sizeOf41⟩
instance : Agg Tryd.prog 41 true := ⟨Tryd.isAgg41⟩
instance : Zer Tryd.prog 41 (.agg #[.int .i64 0, .int .i64 0, .string ⟨#[]⟩, .int .i64 0, .int .i64 0, .string ⟨#[]⟩]) := ⟨Tryd.zeroValue41⟩
instance : Inf Tryd.prog 41 6 64 (.agg #[.int .i64 0, .int .i64 0, .string ⟨#[]⟩, .int .i64 0, .int .i64 0, .string ⟨#[]⟩]) := ⟨inf_of (by kernel_rfl)⟩
instance : Plc Tryd.prog 41 [(0, 1), (1, 1), (2, 1), (3, 3)] := ⟨⟨_, Tryd.runUnderlying41, fun w => by simp [Tryd.sizeOf2, Tryd.sizeOf3, Tryd.sizeOf33, Tryd.sizeOf9]⟩⟩
instance : Fld Tryd.prog 41 0 0 := ⟨fun w a => by simp [Instr.fieldAt, Instr.sureAddr, fieldPlace, Tryd.runUnderlying41, Tryd.sizeOf3]⟩
instance : Fld Tryd.prog 41 1 1 := ⟨fun w a => by simp [Instr.fieldAt, Instr.sureAddr, fieldPlace, Tryd.runUnderlying41, Tryd.sizeOf2]⟩
instance : Fld Tryd.prog 41 2 2 := ⟨fun w a => by simp [Instr.fieldAt, Instr.sureAddr, fieldPlace, Tryd.runUnderlying41, Tryd.sizeOf9]⟩
instance : Fld Tryd.prog 41 3 3 := ⟨fun w a => by simp [Instr.fieldAt, Instr.sureAddr, fieldPlace, Tryd.runUnderlying41, Tryd.sizeOf33]⟩
instance : Cel Tryd.prog 42 10 := ⟨by kernel_rfl⟩
instance : Siz Tryd.prog 42 10 := ⟨Tryd.sizeOf42⟩
instance : Agg Tryd.prog 42 true := ⟨Tryd.isAgg42⟩
instance : Zer Tryd.prog 42 (.agg #[.bool false, .int .i64 0, .int .i64 0, .string ⟨#[]⟩, .int .i64 0, .int .i64 0, .string ⟨#[]⟩, .int .i64 0, .int .i64 0, .string ⟨#[]⟩]) := ⟨Tryd.zeroValue42⟩
instance : Inf Tryd.prog 42 10 104 (.agg #[.bool false, .int .i64 0, .int .i64 0, .string ⟨#[]⟩, .int .i64 0, .int .i64 0, .string ⟨#[]⟩, .int .i64 0, .int .i64 0, .string ⟨#[]⟩]) := ⟨inf_of (by kernel_rfl)⟩
instance : Plc Tryd.prog 42 [(0, 1), (1, 3), (4, 6)] := ⟨⟨_, Tryd.runUnderlying42, fun w => by simp [Tryd.sizeOf33, Tryd.sizeOf4, Tryd.sizeOf41]⟩⟩
instance : Fld Tryd.prog 42 0 0 := ⟨fun w a => by simp [Instr.fieldAt, Instr.sureAddr, fieldPlace, Tryd.runUnderlying42, Tryd.sizeOf4]⟩
instance : Fld Tryd.prog 42 1 1 := ⟨fun w a => by simp [Instr.fieldAt, Instr.sureAddr, fieldPlace, Tryd.runUnderlying42, Tryd.sizeOf33]⟩
instance : Fld Tryd.prog 42 2 4 := ⟨fun w a => by simp [Instr.fieldAt, Instr.sureAddr, fieldPlace, Tryd.runUnderlying42, Tryd.sizeOf41]⟩
instance : Cel Tryd.prog 43 10 := ⟨by kernel_rfl⟩
instance : Siz Tryd.prog 43 10 := ⟨Tryd.sizeOf43⟩
instance : Agg Tryd.prog 43 true := ⟨Tryd.isAgg43⟩
instance : Zer Tryd.prog 43 (.agg #[.bool false, .int .i64 0, .int .i64 0, .string ⟨#[]⟩, .int .i64 0, .int .i64 0, .string ⟨#[]⟩, .int .i64 0, .int .i64 0, .string ⟨#[]⟩]) := ⟨Tryd.zeroValue43⟩
instance : Inf Tryd.prog 43 10 104 (.agg #[.bool false, .int .i64 0, .int .i64 0, .string ⟨#[]⟩, .int .i64 0, .int .i64 0, .string ⟨#[]⟩, .int .i64 0, .int .i64 0, .string ⟨#[]⟩]) := ⟨inf_of (by kernel_rfl)⟩
instance : Plc Tryd.prog 43 [(0, 1), (1, 3), (4, 6)] := ⟨⟨_, Tryd.runUnderlying43, fun w => by simp [Tryd.sizeOf33, Tryd.sizeOf4, Tryd.sizeOf41]⟩⟩
instance : Fld Tryd.prog 43 0 0 := ⟨fun w a => by simp [Instr.fieldAt, Instr.sureAddr, fieldPlace, Tryd.runUnderlying43, Tryd.sizeOf4]⟩
instance : Fld Tryd.prog 43 1 1 := ⟨fun w a => by simp [Instr.fieldAt, Instr.sureAddr, fieldPlace, Tryd.runUnderlying43, Tryd.sizeOf33]⟩
instance : Fld Tryd.prog 43 2 4 := ⟨fun w a => by simp [Instr.fieldAt, Instr.sureAddr, fieldPlace, Tryd.runUnderlying43, Tryd.sizeOf41]⟩
instance : Cel Tryd.prog 44 30 := ⟨by kernel_rfl⟩
instance : Siz Tryd.prog 44 30 := ⟨Tryd.sizeOf44⟩
instance : Agg Tryd.prog 44 true := ⟨Tryd.isAgg44⟩
instance : Zer Tryd.prog 44 (.agg #[.int .i64 0, .int .i64 0, .int .i64 0, .string ⟨#[]⟩, .int .i64 0, .int .i64 0, .string ⟨#[]⟩, .string ⟨#[]⟩, .bool false, .int .i64 0, .int .i64 0, .string ⟨#[]⟩, .int .i64 0, .int .i64 0, .string ⟨#[]⟩, .int .i64 0, .int .i64 0, .string ⟨#[]⟩, .bool false, .int .i64 0, .int .i64 0, .string ⟨#[]⟩, .int .i64 0, .int .i64 0, .string ⟨#[]⟩, .int .i64 0, .int .i64 0, .string ⟨#[]⟩, .int .i64 0, .int .i64 0]) := ⟨Tryd.zeroValue44⟩
instance : Inf Tryd.prog 44 30 312 (.agg #[.int .i64 0, .int .i64 0, .int .i64 0, .string ⟨#[]⟩, .int .i64 0, .int .i64 0, .string ⟨#[]⟩, .string ⟨#[]⟩, .bool false, .int .i64 0, .int .i64 0, .string ⟨#[]⟩, .int .i64 0, .int .i64 0, .string ⟨#[]⟩, .int .i64 0, .int .i64 0, .string ⟨#[]⟩, .bool false, .int .i64 0, .int .i64 0, .string ⟨#[]⟩, .int .i64 0, .int .i64 0, .string ⟨#[]⟩, .int .i64 0, .int .i64 0, .string ⟨#[]⟩, .int .i64 0, .int .i64 0]) := ⟨inf_of (by kernel_rfl)⟩
instance : Plc Tryd.prog 44 [(0, 1), (1, 6), (7, 1), (8, 10), (18, 10), (28, 1), (29, 1)] := ⟨⟨_, Tryd.runUnderlying44, fun w => by simp [Tryd.sizeOf2, Tryd.sizeOf3, Tryd.sizeOf41, Tryd.sizeOf43, Tryd.sizeOf9]⟩⟩
instance : Fld Tryd.prog 44 0 0 := ⟨fun w a => by simp [Instr.fieldAt, Instr.sureAddr, fieldPlace, Tryd.runUnderlying44, Tryd.sizeOf3]⟩
instance : Fld Tryd.prog 44 1 1 := ⟨fun w a => by simp [Instr.fieldAt, Instr.sureAddr, fieldPlace, Tryd.runUnderlying44, Tryd.sizeOf41]⟩
instance : Fld Tryd.prog 44 2 7 := ⟨fun w a => by simp [Instr.fieldAt, Instr.sureAddr, fieldPlace, Tryd.runUnderlying44, Tryd.sizeOf9]⟩
instance : Fld Tryd.prog 44 3 8 := ⟨fun w a => by simp [Instr.fieldAt, Instr.sureAddr, fieldPlace, Tryd.runUnderlying44, Tryd.sizeOf43]⟩
instance : Fld Tryd.prog 44 4 18 := ⟨fun w a => by simp [Instr.fieldAt, Instr.sureAddr, fieldPlace, Tryd.runUnderlying44, Tryd.sizeOf43]⟩
instance : Fld Tryd.prog 44 5 28 := ⟨fun w a => by simp [Instr.fieldAt, Instr.sureAddr, fieldPlace, Tryd.runUnderlying44, Tryd.sizeOf2]⟩
instance : Fld Tryd.prog 44 6 29 := ⟨fun w a => by simp [Instr.fieldAt, Instr.sureAddr, fieldPlace, Tryd.runUnderlying44, Tryd.sizeOf2]⟩
instance : Cel Tryd.prog 45 30 := ⟨by kernel_rfl⟩
instance : Siz Tryd.prog 45 30 := ⟨Tryd.sizeOf45⟩
instance : Agg Tryd.prog 45 true := ⟨Tryd.isAgg45⟩
instance : Zer Tryd.prog 45 (.agg #[.int .i64 0, .int .i64 0, .int .i64 0, .string ⟨#[]⟩, .int .i64 0, .int .i64 0, .string ⟨#[]⟩, .string ⟨#[]⟩, .bool false, .int .i64 0, .int .i64 0, .string ⟨#[]⟩, .int .i64 0, .int .i64 0, .string ⟨#[]⟩, .int .i64 0, .int .i64 0, .string ⟨#[]⟩, .bool false, .int .i64 0, .int .i64 0, .string ⟨#[]⟩, .int .i64 0, .int .i64 0, .string ⟨#[]⟩, .int .i64 0, .int .i64 0, .string ⟨#[]⟩, .int .i64 0, .int .i64 0]) := ⟨Tryd.zeroValue45⟩
instance : Inf Tryd.prog 45 30 312 (.agg #[.int .i64 0, .int .i64 0, .int .i64 0, .string ⟨#[]⟩, .int .i64 0, .int .i64 0, .string ⟨#[]⟩, .string ⟨#[]⟩, .bool false, .int .i64 0, .int .i64 0, .string ⟨#[]⟩, .int .i64 0, .int .i64 0, .string ⟨#[]⟩, .int .i64 0, .int .i64 0, .string ⟨#[]⟩, .bool false, .int .i64 0, .int .i64 0, .string ⟨#[]⟩, .int .i64 0, .int .i64 0, .string ⟨#[]⟩, .int .i64 0, .int .i64 0, .string ⟨#[]⟩, .int .i64 0, .int .i64 0]) := ⟨inf_of (by kernel_rfl)⟩
instance : Plc Tryd.prog 45 [(0, 1), (1, 6), (7, 1), (8, 10), (18, 10), (28, 1), (29, 1)] := ⟨⟨_, Tryd.runUnderlying45, fun w => by simp [Tryd.sizeOf2, Tryd.sizeOf3, Tryd.sizeOf41, Tryd.sizeOf43, Tryd.sizeOf9]⟩⟩
instance : Fld Tryd.prog 45 0 0 := ⟨fun w a => by simp [Instr.fieldAt, Instr.sureAddr, fieldPlace, Tryd.runUnderlying45, Tryd.sizeOf3]⟩
instance : Fld Tryd.prog 45 1 1 := ⟨fun w a => by simp [Instr.fieldAt, Instr.sureAddr, fieldPlace, Tryd.runUnderlying45, Tryd.sizeOf41]⟩
instance : Fld Tryd.prog 45 2 7 := ⟨fun w a => by simp [Instr.fieldAt, Instr.sureAddr, fieldPlace, Tryd.runUnderlying45, Tryd.sizeOf9]⟩
instance : Fld Tryd.prog 45 3 8 := ⟨fun w a => by simp [Instr.fieldAt, Instr.sureAddr, fieldPlace, Tryd.runUnderlying45, Tryd.sizeOf43]⟩
instance : Fld Tryd.prog 45 4 18 := ⟨fun w a => by simp [Instr.fieldAt, Instr.sureAddr, fieldPlace, Tryd.runUnderlying45, Tryd.sizeOf43]⟩
instance : Fld Tryd.prog 45 5 28 := ⟨fun w a => by simp [Instr.fieldAt, Instr.sureAddr, fieldPlace, Tryd.runUnderlying45, Tryd.sizeOf2]⟩
instance : Fld Tryd.prog 45 6 29 := ⟨fun w a => by simp [Instr.fieldAt, Instr.sureAddr, fieldPlace, Tryd.runUnderlying45, Tryd.sizeOf2]⟩
instance : Cel Tryd.prog 46 1 := ⟨by kernel_rfl⟩
instance : Siz Tryd.prog 46 1 := ⟨Tryd.sizeOf46⟩
instance : Agg Tryd.prog 46 false := ⟨Tryd.isAgg46⟩
instance : Zer Tryd.prog 46 (.nilFunc) := ⟨Tryd.zeroValue46⟩
instance : Inf Tryd.prog 46 1 8 (.nilFunc) := ⟨inf_of (by kernel_rfl)⟩
instance : Cel Tryd.prog 47 1 := ⟨by kernel_rfl⟩
instance : Siz Tryd.prog 47 1 := ⟨Tryd.sizeOf47⟩
instance : Agg Tryd.prog 47 false := ⟨Tryd.isAgg47⟩
instance : Zer Tryd.prog 47 (.nilFunc) := ⟨Tryd.zeroValue47⟩
instance : Inf Tryd.prog 47 1 8 (.nilFunc) := ⟨inf_of (by kernel_rfl)⟩
instance : Cel Tryd.prog 48 1 := ⟨by kernel_rfl⟩
instance : Siz Tryd.prog 48 1 := ⟨Tryd.sizeOf48⟩
instance : Cel Tryd.prog 49 1 := ⟨by kernel_rfl⟩
instance : Siz Tryd.prog 49 1 := ⟨Tryd.sizeOf49⟩
instance : Agg Tryd.prog 49 false := ⟨Tryd.isAgg49⟩
instance : Zer Tryd.prog 49 (.nilFunc) := ⟨Tryd.zeroValue49⟩
instance : Inf Tryd.prog 49 1 8 (.nilFunc) := ⟨inf_of (by kernel_rfl)⟩
instance : Cel Tryd.prog 50 1 := ⟨by kernel_rfl⟩
instance : Siz Tryd.prog 50 1 := ⟨Tryd.sizeOf50⟩
instance : Cel Tryd.prog 51 1 := ⟨by kernel_rfl⟩
instance : Siz Tryd.prog 51 1 := ⟨Tryd.sizeOf51⟩
instance : Agg Tryd.prog 51 false := ⟨Tryd.isAgg51⟩
instance : Zer Tryd.prog 51 (.nilFunc) := ⟨Tryd.zeroValue51⟩
instance : Inf Tryd.prog 51 1 8 (.nilFunc) := ⟨inf_of (by kernel_rfl)⟩
instance : Cel Tryd.prog 52 1 := ⟨by kernel_rfl⟩
instance : Siz Tryd.prog 52 1 := ⟨Tryd.sizeOf52⟩
instance : Cel Tryd.prog 53 1 := ⟨by kernel_rfl⟩
instance : Siz Tryd.prog 53 1 := ⟨Tryd.sizeOf53⟩
instance : Agg Tryd.prog 53 false := ⟨Tryd.isAgg53⟩
instance : Zer Tryd.prog 53 (.nilFunc) := ⟨Tryd.zeroValue53⟩
instance : Inf Tryd.prog 53 1 8 (.nilFunc) := ⟨inf_of (by kernel_rfl)⟩
instance : Cel Tryd.prog 54 1 := ⟨by kernel_rfl⟩
instance : Siz Tryd.prog 54 1 := ⟨Tryd.sizeOf54⟩
instance : Cel Tryd.prog 55 1 := ⟨by kernel_rfl⟩
instance : Siz Tryd.prog 55 1 := ⟨Tryd.sizeOf55⟩
instance : Agg Tryd.prog 55 false := ⟨Tryd.isAgg55⟩
instance : Zer Tryd.prog 55 (.nilFunc) := ⟨Tryd.zeroValue55⟩
instance : Inf Tryd.prog 55 1 8 (.nilFunc) := ⟨inf_of (by kernel_rfl)⟩
instance : Cel Tryd.prog 56 1 := ⟨by kernel_rfl⟩
instance : Siz Tryd.prog 56 1 := ⟨Tryd.sizeOf56⟩
instance : Agg Tryd.prog 56 false := ⟨Tryd.isAgg56⟩
instance : Zer Tryd.prog 56 (.nilFunc) := ⟨Tryd.zeroValue56⟩
instance : Inf Tryd.prog 56 1 8 (.nilFunc) := ⟨inf_of (by kernel_rfl)⟩
instance : Und Tryd.prog 57 (.slice 122) := ⟨Tryd.underlying57⟩
instance : Cel Tryd.prog 57 1 := ⟨by kernel_rfl⟩
instance : Siz Tryd.prog 57 1 := ⟨Tryd.sizeOf57⟩
instance : Agg Tryd.prog 57 false := ⟨Tryd.isAgg57⟩
instance : Zer Tryd.prog 57 (.slice none 0 0) := ⟨Tryd.zeroValue57⟩
instance : Inf Tryd.prog 57 1 24 (.slice none 0 0) := ⟨inf_of (by kernel_rfl)⟩
instance : Cel Tryd.prog 58 1 := ⟨by kernel_rfl⟩
instance : Siz Tryd.prog 58 1 := ⟨Tryd.sizeOf58⟩
instance : Agg Tryd.prog 58 false := ⟨Tryd.isAgg58⟩
instance : Zer Tryd.prog 58 (.nilFunc) := ⟨Tryd.zeroValue58⟩
instance : Inf Tryd.prog 58 1 8 (.nilFunc) := ⟨inf_of (by kernel_rfl)⟩
instance : Cel Tryd.prog 59 1 := ⟨by kernel_rfl⟩
instance : Siz Tryd.prog 59 1 := ⟨Tryd.sizeOf59⟩
instance : Agg Tryd.prog 59 false := ⟨Tryd.isAgg59⟩
instance : Zer Tryd.prog 59 (.nilFunc) := ⟨Tryd.zeroValue59⟩
instance : Inf Tryd.prog 59 1 8 (.nilFunc) := ⟨inf_of (by kernel_rfl)⟩
instance : Cel Tryd.prog 60 1 := ⟨by kernel_rfl⟩
instance : Siz Tryd.prog 60 1 := ⟨Tryd.sizeOf60⟩
instance : Agg Tryd.prog 60 false := ⟨Tryd.isAgg60⟩
instance : Zer Tryd.prog 60 (.nilFunc) := ⟨Tryd.zeroValue60⟩
instance : Inf Tryd.prog 60 1 8 (.nilFunc) := ⟨inf_of (by kernel_rfl)⟩
instance : Cel Tryd.prog 61 1 := ⟨by kernel_rfl⟩
instance : Siz Tryd.prog 61 1 := ⟨Tryd.sizeOf61⟩
instance : Agg Tryd.prog 61 false := ⟨Tryd.isAgg61⟩
instance : Zer Tryd.prog 61 (.nilFunc) := ⟨Tryd.zeroValue61⟩
instance : Inf Tryd.prog 61 1 8 (.nilFunc) := ⟨inf_of (by kernel_rfl)⟩
instance : Cel Tryd.prog 62 1 := ⟨by kernel_rfl⟩
instance : Siz Tryd.prog 62 1 := ⟨Tryd.sizeOf62⟩
instance : Agg Tryd.prog 62 false := ⟨Tryd.isAgg62⟩
instance : Zer Tryd.prog 62 (.nilFunc) := ⟨Tryd.zeroValue62⟩
instance : Inf Tryd.prog 62 1 8 (.nilFunc) := ⟨inf_of (by kernel_rfl)⟩
instance : Cel Tryd.prog 63 1 := ⟨by kernel_rfl⟩
instance : Siz Tryd.prog 63 1 := ⟨Tryd.sizeOf63⟩
instance : Cel Tryd.prog 64 1 := ⟨by kernel_rfl⟩
instance : Siz Tryd.prog 64 1 := ⟨Tryd.sizeOf64⟩
instance : Agg Tryd.prog 64 false := ⟨Tryd.isAgg64⟩
instance : Zer Tryd.prog 64 (.nilFunc) := ⟨Tryd.zeroValue64⟩
instance : Inf Tryd.prog 64 1 8 (.nilFunc) := ⟨inf_of (by kernel_rfl)⟩
instance : Cel Tryd.prog 65 1 := ⟨by kernel_rfl⟩
instance : Siz Tryd.prog 65 1 := ⟨Tryd.sizeOf65⟩
instance : Agg Tryd.prog 65 false := ⟨Tryd.isAgg65⟩
instance : Zer Tryd.prog 65 (.nilFunc) := ⟨Tryd.zeroValue65⟩
instance : Inf Tryd.prog 65 1 8 (.nilFunc) := ⟨inf_of (by kernel_rfl)⟩
instance : Cel Tryd.prog 66 1 := ⟨by kernel_rfl⟩
instance : Siz Tryd.prog 66 1 := ⟨Tryd.sizeOf66⟩
instance : Agg Tryd.prog 66 false := ⟨Tryd.isAgg66⟩
instance : Zer Tryd.prog 66 (.nilFunc) := ⟨Tryd.zeroValue66⟩
instance : Inf Tryd.prog 66 1 8 (.nilFunc) := ⟨inf_of (by kernel_rfl)⟩
instance : Und Tryd.prog 67 (.slice 22) := ⟨Tryd.underlying67⟩
instance : Cel Tryd.prog 67 1 := ⟨by kernel_rfl⟩
instance : Siz Tryd.prog 67 1 := ⟨Tryd.sizeOf67⟩
instance : Agg Tryd.prog 67 false := ⟨Tryd.isAgg67⟩
instance : Zer Tryd.prog 67 (.slice none 0 0) := ⟨Tryd.zeroValue67⟩
instance : Inf Tryd.prog 67 1 24 (.slice none 0 0) := ⟨inf_of (by kernel_rfl)⟩
instance : Cel Tryd.prog 68 1 := ⟨by kernel_rfl⟩
instance : Siz Tryd.prog 68 1 := ⟨Tryd.sizeOf68⟩
instance : Agg Tryd.prog 68 false := ⟨Tryd.isAgg68⟩
instance : Zer Tryd.prog 68 (.nilFunc) := ⟨Tryd.zeroValue68⟩
instance : Inf Tryd.prog 68 1 8 (.nilFunc) := ⟨inf_of (by kernel_rfl)⟩
instance : Cel Tryd.prog 69 1 := ⟨by kernel_rfl⟩
instance : Siz Tryd.prog 69 1 := ⟨Tryd.sizeOf69⟩
instance : Agg Tryd.prog 69 false := ⟨Tryd.isAgg69⟩
instance : Zer Tryd.prog 69 (.nilFunc) := ⟨Tryd.zeroValue69⟩
instance : Inf Tryd.prog 69 1 8 (.nilFunc) := ⟨inf_of (by kernel_rfl)⟩
instance : Cel Tryd.prog 70 1 := ⟨by kernel_rfl⟩
instance : Siz Tryd.prog 70 1 := ⟨Tryd.sizeOf70⟩
instance : Agg Tryd.prog 70 false := ⟨Tryd.isAgg70⟩
instance : Zer Tryd.prog 70 (.nilFunc) := ⟨Tryd.zeroValue70⟩
instance : Inf Tryd.prog 70 1 8 (.nilFunc) := ⟨inf_of (by kernel_rfl)⟩
instance : Cel Tryd.prog 71 4 := ⟨by kernel_rfl⟩
instance : Siz Tryd.prog 71 4 := ⟨Tryd.sizeOf71⟩
instance : Agg Tryd.prog 71 true := ⟨Tryd.isAgg71⟩
instance : Zer Tryd.prog 71 (.agg #[.string ⟨#[]⟩, .int .i64 0, .int .i64 0, .bool false]) := ⟨Tryd.zeroValue71⟩
instance : Inf Tryd.prog 71 4 40 (.agg #[.string ⟨#[]⟩, .int .i64 0, .int .i64 0, .bool false]) := ⟨inf_of (by kernel_rfl)⟩
instance : Plc Tryd.prog 71 [(0, 1), (1, 1), (2, 1), (3, 1)] := ⟨⟨_, Tryd.runUnderlying71, fun w => by simp [Tryd.sizeOf3, Tryd.sizeOf4, Tryd.sizeOf9]⟩⟩
instance : Fld Tryd.prog 71 0 0 := ⟨fun w a => by simp [Instr.fieldAt, Instr.sureAddr, fieldPlace, Tryd.runUnderlying71, Tryd.sizeOf9]⟩
instance : Fld Tryd.prog 71 1 1 := ⟨fun w a => by simp [Instr.fieldAt, Instr.sureAddr, fieldPlace, Tryd.runUnderlying71, Tryd.sizeOf3]⟩
instance : Fld Tryd.prog 71 2 2 := ⟨fun w a => by simp [Instr.fieldAt, Instr.sureAddr, fieldPlace, Tryd.runUnderlying71, Tryd.sizeOf3]⟩
instance : Fld Tryd.prog 71 3 3 := ⟨fun w a => by simp [Instr.fieldAt, Instr.sureAddr, fieldPlace, Tryd.runUnderlying71, Tryd.sizeOf4]⟩
instance : Cel Tryd.prog 72 4 := ⟨by kernel_rfl⟩
instance : Siz Tryd.prog 72 4 := ⟨Tryd.sizeOf72⟩
instance : Agg Tryd.prog 72 true := ⟨Tryd.isAgg72⟩
instance : Zer Tryd.prog 72 (.agg #[.string ⟨#[]⟩, .int .i64 0, .int .i64 0, .bool false]) := ⟨Tryd.zeroValue72⟩
instance : Inf Tryd.prog 72 4 40 (.agg #[.string ⟨#[]⟩, .int .i64 0, .int .i64 0, .bool false]) := ⟨inf_of (by kernel_rfl)⟩
instance : Plc Tryd.prog 72 [(0, 1), (1, 1), (2, 1), (3, 1)] := ⟨⟨_, Tryd.runUnderlying72, fun w => by simp [Tryd.sizeOf3, Tryd.sizeOf4, Tryd.sizeOf9]⟩⟩
instance : Fld Tryd.prog 72 0 0 := ⟨fun w a => by simp [Instr.fieldAt, Instr.sureAddr, fieldPlace, Tryd.runUnderlying72, Tryd.sizeOf9]⟩
instance : Fld Tryd.prog 72 1 1 := ⟨fun w a => by simp [Instr.fieldAt, Instr.sureAddr, fieldPlace, Tryd.runUnderlying72, Tryd.sizeOf3]⟩
instance : Fld Tryd.prog 72 2 2 := ⟨fun w a => by simp [Instr.fieldAt, Instr.sureAddr, fieldPlace, Tryd.runUnderlying72, Tryd.sizeOf3]⟩
instance : Fld Tryd.prog 72 3 3 := ⟨fun w a => by simp [Instr.fieldAt, Instr.sureAddr, fieldPlace, Tryd.runUnderlying72, Tryd.sizeOf4]⟩
instance : Cel Tryd.prog 73 1 := ⟨by kernel_rfl⟩
instance : Siz Tryd.prog 73 1 := ⟨Tryd.sizeOf73⟩
instance : Agg Tryd.prog 73 false := ⟨Tryd.isAgg73⟩
instance : Zer Tryd.prog 73 (.nilFunc) := ⟨Tryd.zeroValue73⟩
instance : Inf Tryd.prog 73 1 8 (.nilFunc) := ⟨inf_of (by kernel_rfl)⟩
instance : Cel Tryd.prog 74 1 := ⟨by kernel_rfl⟩
instance : Siz Tryd.prog 74 1 := ⟨Tryd.sizeOf74⟩
instance : Agg Tryd.prog 74 false := ⟨Tryd.isAgg74⟩
instance : Zer Tryd.prog 74 (.nilFunc) := ⟨Tryd.zeroValue74⟩
instance : Inf Tryd.prog 74 1 8 (.nilFunc) := ⟨inf_of (by kernel_rfl)⟩
instance : Cel Tryd.prog 75 1 := ⟨by kernel_rfl⟩
instance : Siz Tryd.prog 75 1 := ⟨Tryd.sizeOf75⟩
instance : Cel Tryd.prog 76 1 := ⟨by kernel_rfl⟩
instance : Siz Tryd.prog 76 1 := ⟨Tryd.sizeOf76⟩
instance : Agg Tryd.prog 76 false := ⟨Tryd.isAgg76⟩
instance : Zer Tryd.prog 76 (.nilFunc) := ⟨Tryd.zeroValue76⟩
instance : Inf Tryd.prog 76 1 8 (.nilFunc) := ⟨inf_of (by kernel_rfl)⟩
instance : Und Tryd.prog 77 (.pointer 79) := ⟨Tryd.underlying77⟩
instance : Cel Tryd.prog 77 1 := ⟨by kernel_rfl⟩
instance : Siz Tryd.prog 77 1 := ⟨Tryd.sizeOf77⟩
instance : Agg Tryd.prog 77 false := ⟨Tryd.isAgg77⟩
instance : Zer Tryd.prog 77 (.pointer none) := ⟨Tryd.zeroValue77⟩
instance : Inf Tryd.prog 77 1 8 (.pointer none) := ⟨inf_of (by kernel_rfl)⟩
instance : Cel Tryd.prog 78 5 := ⟨by kernel_rfl⟩
instance : Siz Tryd.prog 78 5 := ⟨Tryd.sizeOf78⟩
instance : Agg Tryd.prog 78 true := ⟨Tryd.isAgg78⟩
instance : Zer Tryd.prog 78 (.agg #[.string ⟨#[]⟩, .int .i64 0, .int .i64 0, .int .i64 0, .int .i64 0]) := ⟨Tryd.zeroValue78⟩
instance : Inf Tryd.prog 78 5 48 (.agg #[.string ⟨#[]⟩, .int .i64 0, .int .i64 0, .int .i64 0, .int .i64 0]) := ⟨inf_of (by kernel_rfl)⟩
instance : Plc Tryd.prog 78 [(0, 1), (1, 1), (2, 1), (3, 1), (4, 1)] := ⟨⟨_, Tryd.runUnderlying78, fun w => by simp [Tryd.sizeOf3, Tryd.sizeOf9]⟩⟩
instance : Fld Tryd.prog 78 0 0 := ⟨fun w a => by simp [Instr.fieldAt, Instr.sureAddr, fieldPlace, Tryd.runUnderlying78, Tryd.sizeOf9]⟩
instance : Fld Tryd.prog 78 1 1 := ⟨fun w a => by simp [Instr.fieldAt, Instr.sureAddr, fieldPlace, Tryd.runUnderlying78, Tryd.sizeOf3]⟩
instance : Fld Tryd.prog 78 2 2 := ⟨fun w a => by simp [Instr.fieldAt, Instr.sureAddr, fieldPlace, Tryd.runUnderlying78, Tryd.sizeOf3]⟩
instance : Fld Tryd.prog 78 3 3 := ⟨fun w a => by simp [Instr.fieldAt, Instr.sureAddr, fieldPlace, Tryd.runUnderlying78, Tryd.sizeOf3]⟩
instance : Fld Tryd.prog 78 4 4 := ⟨fun w a => by simp [Instr.fieldAt, Instr.sureAddr, fieldPlace, Tryd.runUnderlying78, Tryd.sizeOf3]⟩
instance : Cel Tryd.prog 79 5 := ⟨by kernel_rfl⟩
instance : Siz Tryd.prog 79 5 := ⟨Tryd.sizeOf79⟩
instance : Agg Tryd.prog 79 true := ⟨Tryd.isAgg79⟩
instance : Zer Tryd.prog 79 (.agg #[.string ⟨#[]⟩, .int .i64 0, .int .i64 0, .int .i64 0, .int .i64 0]) := ⟨Tryd.zeroValue79⟩
instance : Inf Tryd.prog 79 5 48 (.agg #[.string ⟨#[]⟩, .int .i64 0, .int .i64 0, .int .i64 0, .int .i64 0]) := ⟨inf_of (by kernel_rfl)⟩
instance : Plc Tryd.prog 79 [(0, 1), (1, 1), (2, 1), (3, 1), (4, 1)] := ⟨⟨_, Tryd.runUnderlying79, fun w => by simp [Tryd.sizeOf3, Tryd.sizeOf9]⟩⟩
instance : Fld Tryd.prog 79 0 0 := ⟨fun w a => by simp [Instr.fieldAt, Instr.sureAddr, fieldPlace, Tryd.runUnderlying79, Tryd.sizeOf9]⟩
instance : Fld Tryd.prog 79 1 1 := ⟨fun w a => by simp [Instr.fieldAt, Instr.sureAddr, fieldPlace, Tryd.runUnderlying79, Tryd.sizeOf3]⟩
instance : Fld Tryd.prog 79 2 2 := ⟨fun w a => by simp [Instr.fieldAt, Instr.sureAddr, fieldPlace, Tryd.runUnderlying79, Tryd.sizeOf3]⟩
instance : Fld Tryd.prog 79 3 3 := ⟨fun w a => by simp [Instr.fieldAt, Instr.sureAddr, fieldPlace, Tryd.runUnderlying79, Tryd.sizeOf3]⟩
instance : Fld Tryd.prog 79 4 4 := ⟨fun w a => by simp [Instr.fieldAt, Instr.sureAddr, fieldPlace, Tryd.runUnderlying79, Tryd.sizeOf3]⟩
instance : Cel Tryd.prog 80 1 := ⟨by kernel_rfl⟩
instance : Siz Tryd.prog 80 1 := ⟨Tryd.sizeOf80⟩
instance : Agg Tryd.prog 80 false := ⟨Tryd.isAgg80⟩
instance : Zer Tryd.prog 80 (.nilFunc) := ⟨Tryd.zeroValue80⟩
instance : Inf Tryd.prog 80 1 8 (.nilFunc) := ⟨inf_of (by kernel_rfl)⟩
instance : Cel Tryd.prog 81 1 := ⟨by kernel_rfl⟩
instance : Siz Tryd.prog 81 1 := ⟨Tryd.sizeOf81⟩
instance : Cel Tryd.prog 82 1 := ⟨by kernel_rfl⟩
instance : Siz Tryd.prog 82 1 := ⟨Tryd.sizeOf82⟩
instance : Agg Tryd.prog 82 false := ⟨Tryd.isAgg82⟩
instance : Zer Tryd.prog 82 (.nilFunc) := ⟨Tryd.zeroValue82⟩
instance : Inf Tryd.prog 82 1 8 (.nilFunc) := ⟨inf_of (by kernel_rfl)⟩
instance : Cel Tryd.prog 83 1 := ⟨by kernel_rfl⟩
instance : Siz Tryd.prog 83 1 := ⟨Tryd.sizeOf83⟩
instance : Agg Tryd.prog 83 false := ⟨Tryd.isAgg83⟩
instance : Zer Tryd.prog 83 (.nilFunc) := ⟨Tryd.zeroValue83⟩
instance : Inf Tryd.prog 83 1 8 (.nilFunc) := ⟨inf_of (by kernel_rfl)⟩
instance : Cel Tryd.prog 84 1 := ⟨by kernel_rfl⟩
instance : Siz Tryd.prog 84 1 := ⟨Tryd.sizeOf84⟩
instance : Agg Tryd.prog 84 false := ⟨Tryd.isAgg84⟩
instance : Zer Tryd.prog 84 (.nilFunc) := ⟨Tryd.zeroValue84⟩
instance : Inf Tryd.prog 84 1 8 (.nilFunc) := ⟨inf_of (by kernel_rfl)⟩
instance : Und Tryd.prog 85 (.pointer 91) := ⟨Tryd.underlying85⟩
instance : Cel Tryd.prog 85 1 := ⟨by kernel_rfl⟩
instance : Siz Tryd.prog 85 1 := ⟨Tryd.sizeOf85⟩
instance : Agg Tryd.prog 85 false := ⟨Tryd.isAgg85⟩
instance : Zer Tryd.prog 85 (.pointer none) := ⟨Tryd.zeroValue85⟩
instance : Inf Tryd.prog 85 1 8 (.pointer none) := ⟨inf_of (by kernel_rfl)⟩
instance : Und Tryd.prog 86 (.pointer 89) := ⟨Tryd.underlying86⟩
instance : Cel Tryd.prog 86 1 := ⟨by kernel_rfl⟩
instance : Siz Tryd.prog 86 1 := ⟨Tryd.sizeOf86⟩
instance : Agg Tryd.prog 86 false := ⟨Tryd.isAgg86⟩
instance : Zer Tryd.prog 86 (.pointer none) := ⟨Tryd.zeroValue86⟩
instance : Inf Tryd.prog 86 1 8 (.pointer none) := ⟨inf_of (by kernel_rfl)⟩
instance : Und Tryd.prog 87 (.slice 5) := ⟨Tryd.underlying87⟩
instance : Cel Tryd.prog 87 1 := ⟨by kernel_rfl⟩
instance : Siz Tryd.prog 87 1 := ⟨Tryd.sizeOf87⟩
instance : Agg Tryd.prog 87 false := ⟨Tryd.isAgg87⟩
instance : Zer Tryd.prog 87 (.slice none 0 0) := ⟨Tryd.zeroValue87⟩
instance : Inf Tryd.prog 87 1 24 (.slice none 0 0) := ⟨inf_of (by kernel_rfl)⟩
instance : Cel Tryd.prog 88 2 := ⟨by kernel_rfl⟩
instance : Siz Tryd.prog 88 2 := ⟨Tryd.sizeOf88⟩
instance : Agg Tryd.prog 88 true := ⟨Tryd.isAgg88⟩
instance : Zer Tryd.prog 88 (.agg #[.pointer none, .slice none 0 0]) := ⟨Tryd.zeroValue88⟩
instance : Inf Tryd.prog 88 2 32 (.agg #[.pointer none, .slice none 0 0]) := ⟨inf_of (by kernel_rfl)⟩
instance : Plc Tryd.prog 88 [(0, 1), (1, 1)] := ⟨⟨_, Tryd.runUnderlying88, fun w => by simp [Tryd.sizeOf86, Tryd.sizeOf87]⟩⟩
instance : Fld Tryd.prog 88 0 0 := ⟨fun w a => by simp [Instr.fieldAt, Instr.sureAddr, fieldPlace, Tryd.runUnderlying88, Tryd.sizeOf86]⟩
instance : Fld Tryd.prog 88 1 1 := ⟨fun w a => by simp [Instr.fieldAt, Instr.sureAddr, fieldPlace, Tryd.runUnderlying88, Tryd.sizeOf87]⟩
instance : Cel Tryd.prog 89 2 := ⟨by kernel_rfl⟩
instance : Siz Tryd.prog 89 2 := ⟨Tryd.sizeOf89⟩
instance : Agg Tryd.prog 89 true := ⟨Tryd.isAgg89⟩
instance : Zer Tryd.prog 89 (.agg #[.pointer none, .slice none 0 0]) := ⟨Tryd.zeroValue89⟩
instance : Inf Tryd.prog 89 2 32 (.agg #[.pointer none, .slice none 0 0]) := ⟨inf_of (by kernel_rfl)⟩
instance : Plc Tryd.prog 89 [(0, 1), (1, 1)] := ⟨⟨_, Tryd.runUnderlying89, fun w => by simp [Tryd.sizeOf86, Tryd.sizeOf87]⟩⟩
instance : Fld Tryd.prog 89 0 0 := ⟨fun w a => by simp [Instr.fieldAt, Instr.sureAddr, fieldPlace, Tryd.runUnderlying89, Tryd.sizeOf86]⟩
instance : Fld Tryd.prog 89 1 1 := ⟨fun w a => by simp [Instr.fieldAt, Instr.sureAddr, fieldPlace, Tryd.runUnderlying89, Tryd.sizeOf87]⟩
instance : Cel Tryd.prog 90 5 := ⟨by kernel_rfl⟩
instance : Siz Tryd.prog 90 5 := ⟨Tryd.sizeOf90⟩
instance : Agg Tryd.prog 90 true := ⟨Tryd.isAgg90⟩
instance : Zer Tryd.prog 90 (.agg #[.pointer none, .slice none 0 0, .int .i64 0, .int .i64 0, .bool false]) := ⟨Tryd.zeroValue90⟩
instance : Inf Tryd.prog 90 5 56 (.agg #[.pointer none, .slice none 0 0, .int .i64 0, .int .i64 0, .bool false]) := ⟨inf_of (by kernel_rfl)⟩
instance : Plc Tryd.prog 90 [(0, 2), (2, 1), (3, 1), (4, 1)] := ⟨⟨_, Tryd.runUnderlying90, fun w => by simp [Tryd.sizeOf3, Tryd.sizeOf4, Tryd.sizeOf89]⟩⟩
instance : Fld Tryd.prog 90 0 0 := ⟨fun w a => by simp [Instr.fieldAt, Instr.sureAddr, fieldPlace, Tryd.runUnderlying90, Tryd.sizeOf89]⟩
instance : Fld Tryd.prog 90 1 2 := ⟨fun w a => by simp [Instr.fieldAt, Instr.sureAddr, fieldPlace, Tryd.runUnderlying90, Tryd.sizeOf3]⟩
instance : Fld Tryd.prog 90 2 3 := ⟨fun w a => by simp [Instr.fieldAt, Instr.sureAddr, fieldPlace, Tryd.runUnderlying90, Tryd.sizeOf3]⟩
instance : Fld Tryd.prog 90 3 4 := ⟨fun w a => by simp [Instr.fieldAt, Instr.sureAddr, fieldPlace, Tryd.runUnderlying90, Tryd.sizeOf4]⟩
instance : Cel Tryd.prog 91 5 := ⟨by kernel_rfl⟩
instance : Siz Tryd.prog 91 5 := ⟨Tryd.sizeOf91⟩
instance : Agg Tryd.prog 91 true := ⟨Tryd.isAgg91⟩
instance : Zer Tryd.prog 91 (.agg #[.pointer none, .slice none 0 0, .int .i64 0, .int .i64 0, .bool false]) := ⟨Tryd.zeroValue91⟩
instance : Inf Tryd.prog 91 5 56 (.agg #[.pointer none, .slice none 0 0, .int .i64 0, .int .i64 0, .bool false]) := ⟨inf_of (by kernel_rfl)⟩
instance : Plc Tryd.prog 91 [(0, 2), (2, 1), (3, 1), (4, 1)] := ⟨⟨_, Tryd.runUnderlying91, fun w => by simp [Tryd.sizeOf3, Tryd.sizeOf4, Tryd.sizeOf89]⟩⟩
instance : Fld Tryd.prog 91 0 0 := ⟨fun w a => by simp [Instr.fieldAt, Instr.sureAddr, fieldPlace, Tryd.runUnderlying91, Tryd.sizeOf89]⟩
instance : Fld Tryd.prog 91 1 2 := ⟨fun w a => by simp [Instr.fieldAt, Instr.sureAddr, fieldPlace, Tryd.runUnderlying91, Tryd.sizeOf3]⟩
instance : Fld Tryd.prog 91 2 3 := ⟨fun w a => by simp [Instr.fieldAt, Instr.sureAddr, fieldPlace, Tryd.runUnderlying91, Tryd.sizeOf3]⟩
instance : Fld Tryd.prog 91 3 4 := ⟨fun w a => by simp [Instr.fieldAt, Instr.sureAddr, fieldPlace, Tryd.runUnderlying91, Tryd.sizeOf4]⟩
instance : Cel Tryd.prog 92 1 := ⟨by kernel_rfl⟩
instance : Siz Tryd.prog 92 1 := ⟨Tryd.sizeOf92⟩
instance : Agg Tryd.prog 92 false := ⟨Tryd.isAgg92⟩
instance : Zer Tryd.prog 92 (.nilFunc) := ⟨Tryd.zeroValue92⟩
instance : Inf Tryd.prog 92 1 8 (.nilFunc) := ⟨inf_of (by kernel_rfl)⟩
instance : Cel Tryd.prog 93 1 := ⟨by kernel_rfl⟩
instance : Siz Tryd.prog 93 1 := ⟨Tryd.sizeOf93⟩
instance : Agg Tryd.prog 93 false := ⟨Tryd.isAgg93⟩
instance : Zer Tryd.prog 93 (.nilFunc) := ⟨Tryd.zeroValue93⟩
instance : Inf Tryd.prog 93 1 8 (.nilFunc) := ⟨inf_of (by kernel_rfl)⟩
instance : Cel Tryd.prog 94 1 := ⟨by kernel_rfl⟩
instance : Siz Tryd.prog 94 1 := ⟨Tryd.sizeOf94⟩
instance : Agg Tryd.prog 94 false := ⟨Tryd.isAgg94⟩
instance : Zer Tryd.prog 94 (.nilIface) := ⟨Tryd.zeroValue94⟩
instance : Inf Tryd.prog 94 1 16 (.nilIface) := ⟨inf_of (by kernel_rfl)⟩
instance : Cel Tryd.prog 95 1 := ⟨by kernel_rfl⟩
instance : Siz Tryd.prog 95 1 := ⟨Tryd.sizeOf95⟩
instance : Agg Tryd.prog 95 false := ⟨Tryd.isAgg95⟩
instance : Zer Tryd.prog 95 (.nilIface) := ⟨Tryd.zeroValue95⟩
instance : Inf Tryd.prog 95 1 16 (.nilIface) := ⟨inf_of (by kernel_rfl)⟩
instance : Cel Tryd.prog 96 1 := ⟨by kernel_rfl⟩
instance : Siz Tryd.prog 96 1 := ⟨Tryd.sizeOf96⟩
instance : Agg Tryd.prog 96 false := ⟨Tryd.isAgg96⟩
instance : Zer Tryd.prog 96 (.nilFunc) := ⟨Tryd.zeroValue96⟩
instance : Inf Tryd.prog 96 1 8 (.nilFunc) := ⟨inf_of (by kernel_rfl)⟩
instance : Und Tryd.prog 97 (.slice 3) := ⟨Tryd.underlying97⟩
instance : Cel Tryd.prog 97 1 := ⟨by kernel_rfl⟩
instance : Siz Tryd.prog 97 1 := ⟨Tryd.sizeOf97⟩
instance : Agg Tryd.prog 97 false := ⟨Tryd.isAgg97⟩
instance : Zer Tryd.prog 97 (.slice none 0 0) := ⟨Tryd.zeroValue97⟩
instance : Inf Tryd.prog 97 1 24 (.slice none 0 0) := ⟨inf_of (by kernel_rfl)⟩
instance : Cel Tryd.prog 98 1 := ⟨by kernel_rfl⟩
instance : Siz Tryd.prog 98 1 := ⟨Tryd.sizeOf98⟩
instance : Agg Tryd.prog 98 false := ⟨Tryd.isAgg98⟩
instance : Zer Tryd.prog 98 (.nilFunc) := ⟨Tryd.zeroValue98⟩
instance : Inf Tryd.prog 98 1 8 (.nilFunc) := ⟨inf_of (by kernel_rfl)⟩
instance : Cel Tryd.prog 99 1 := ⟨by kernel_rfl⟩
instance : Siz Tryd.prog 99 1 := ⟨Tryd.sizeOf99⟩
instance : Agg Tryd.prog 99 false := ⟨Tryd.isAgg99⟩
instance : Zer Tryd.prog 99 (.nilFunc) := ⟨Tryd.zeroValue99⟩
instance : Inf Tryd.prog 99 1 8 (.nilFunc) := ⟨inf_of (by kernel_rfl)⟩
instance : Cel Tryd.prog 100 1 := ⟨by kernel_rfl⟩
instance : Siz Tryd.prog 100 1 := ⟨Tryd.sizeOf100⟩
instance : Agg Tryd.prog 100 false := ⟨Tryd.isAgg100⟩
instance : Zer Tryd.prog 100 (.nilFunc) := ⟨Tryd.zeroValue100⟩
instance : Inf Tryd.prog 100 1 8 (.nilFunc) := ⟨inf_of (by kernel_rfl)⟩
instance : Cel Tryd.prog 101 1 := ⟨by kernel_rfl⟩
instance : Siz Tryd.prog 101 1 := ⟨Tryd.sizeOf101⟩
instance : Agg Tryd.prog 101 false := ⟨Tryd.isAgg101⟩
instance : Zer Tryd.prog 101 (.nilFunc) := ⟨Tryd.zeroValue101⟩
instance : Inf Tryd.prog 101 1 8 (.nilFunc) := ⟨inf_of (by kernel_rfl)⟩
instance : Und Tryd.prog 102 (.array 5 9) := ⟨Tryd.underlying102⟩
instance : Cel Tryd.prog 102 5 := ⟨by kernel_rfl⟩
instance : Siz Tryd.prog 102 5 := ⟨Tryd.sizeOf102⟩
instance : Agg Tryd.prog 102 true := ⟨Tryd.isAgg102⟩
instance : Zer Tryd.prog 102 (.agg #[.string ⟨#[]⟩, .string ⟨#[]⟩, .string ⟨#[]⟩, .string ⟨#[]⟩, .string ⟨#[]⟩]) := ⟨Tryd.zeroValue102⟩
instance : Inf Tryd.prog 102 5 80 (.agg #[.string ⟨#[]⟩, .string ⟨#[]⟩, .string ⟨#[]⟩, .string ⟨#[]⟩, .string ⟨#[]⟩]) := ⟨inf_of (by kernel_rfl)⟩
instance : Cel Tryd.prog 103 1 := ⟨by kernel_rfl⟩
instance : Siz Tryd.prog 103 1 := ⟨Tryd.sizeOf103⟩
instance : Agg Tryd.prog 103 false := ⟨Tryd.isAgg103⟩
instance : Zer Tryd.prog 103 (.nilFunc) := ⟨Tryd.zeroValue103⟩
instance : Inf Tryd.prog 103 1 8 (.nilFunc) := ⟨inf_of (by kernel_rfl)⟩
instance : Cel Tryd.prog 104 1 := ⟨by kernel_rfl⟩
instance : Siz Tryd.prog 104 1 := ⟨Tryd.sizeOf104⟩
instance : Agg Tryd.prog 104 false := ⟨Tryd.isAgg104⟩
instance : Zer Tryd.prog 104 (.nilFunc) := ⟨Tryd.zeroValue104⟩
instance : Inf Tryd.prog 104 1 8 (.nilFunc) := ⟨inf_of (by kernel_rfl)⟩
instance : Cel Tryd.prog 105 1 := ⟨by kernel_rfl⟩
instance : Siz Tryd.prog 105 1 := ⟨Tryd.sizeOf105⟩
instance : Agg Tryd.prog 105 false := ⟨Tryd.isAgg105⟩
instance : Zer Tryd.prog 105 (.nilFunc) := ⟨Tryd.zeroValue105⟩
instance : Inf Tryd.prog 105 1 8 (.nilFunc) := ⟨inf_of (by kernel_rfl)⟩
instance : Cel Tryd.prog 106 1 := ⟨by kernel_rfl⟩
instance : Siz Tryd.prog 106 1 := ⟨Tryd.sizeOf106⟩
instance : Agg Tryd.prog 106 false := ⟨Tryd.isAgg106⟩
instance : Zer Tryd.prog 106 (.nilFunc) := ⟨Tryd.zeroValue106⟩
instance : Inf Tryd.prog 106 1 8 (.nilFunc) := ⟨inf_of (by kernel_rfl)⟩
instance : Cel Tryd.prog 107 1 := ⟨by kernel_rfl⟩
instance : Siz Tryd.prog 107 1 := ⟨Tryd.sizeOf107⟩
instance : Agg Tryd.prog 107 false := ⟨Tryd.isAgg107⟩
instance : Zer Tryd.prog 107 (.nilFunc) := ⟨Tryd.zeroValue107⟩
instance : Inf Tryd.prog 107 1 8 (.nilFunc) := ⟨inf_of (by kernel_rfl)⟩
instance : Cel Tryd.prog 108 1 := ⟨by kernel_rfl⟩
instance : Siz Tryd.prog 108 1 := ⟨Tryd.sizeOf108⟩
instance : Agg Tryd.prog 108 false := ⟨Tryd.isAgg108⟩
instance : Zer Tryd.prog 108 (.nilFunc) := ⟨Tryd.zeroValue108⟩
instance : Inf Tryd.prog 108 1 8 (.nilFunc) := ⟨inf_of (by kernel_rfl)⟩
instance : Cel Tryd.prog 109 1 := ⟨by kernel_rfl⟩
instance : Siz Tryd.prog 109 1 := ⟨Tryd.sizeOf109⟩
instance : Agg Tryd.prog 109 false := ⟨Tryd.isAgg109⟩
instance : Zer Tryd.prog 109 (.nilFunc) := ⟨Tryd.zeroValue109⟩
instance : Inf Tryd.prog 109 1 8 (.nilFunc) := ⟨inf_of (by kernel_rfl)⟩
instance : Cel Tryd.prog 110 1 := ⟨by kernel_rfl⟩
instance : Siz Tryd.prog 110 1 := ⟨Tryd.sizeOf110⟩
instance : Agg Tryd.prog 110 false := ⟨Tryd.isAgg110⟩
instance : Zer Tryd.prog 110 (.nilFunc) := ⟨Tryd.zeroValue110⟩
instance : Inf Tryd.prog 110 1 8 (.nilFunc) := ⟨inf_of (by kernel_rfl)⟩
instance : Cel Tryd.prog 111 1 := ⟨by kernel_rfl⟩
instance : Siz Tryd.prog 111 1 := ⟨Tryd.sizeOf111⟩
instance : Agg Tryd.prog 111 false := ⟨Tryd.isAgg111⟩
instance : Zer Tryd.prog 111 (.nilFunc) := ⟨Tryd.zeroValue111⟩
instance : Inf Tryd.prog 111 1 8 (.nilFunc) := ⟨inf_of (by kernel_rfl)⟩
instance : Cel Tryd.prog 112 1 := ⟨by kernel_rfl⟩
instance : Siz Tryd.prog 112 1 := ⟨Tryd.sizeOf112⟩
instance : Agg Tryd.prog 112 false := ⟨Tryd.isAgg112⟩
instance : Zer Tryd.prog 112 (.nilFunc) := ⟨Tryd.zeroValue112⟩
instance : Inf Tryd.prog 112 1 8 (.nilFunc) := ⟨inf_of (by kernel_rfl)⟩
instance : Cel Tryd.prog 113 1 := ⟨by kernel_rfl⟩
instance : Siz Tryd.prog 113 1 := ⟨Tryd.sizeOf113⟩
instance : Cel Tryd.prog 114 1 := ⟨by kernel_rfl⟩
instance : Siz Tryd.prog 114 1 := ⟨Tryd.sizeOf114⟩
instance : Agg Tryd.prog 114 false := ⟨Tryd.isAgg114⟩
instance : Zer Tryd.prog 114 (.nilFunc) := ⟨Tryd.zeroValue114⟩
instance : Inf Tryd.prog 114 1 8 (.nilFunc) := ⟨inf_of (by kernel_rfl)⟩
instance : Cel Tryd.prog 115 1 := ⟨by kernel_rfl⟩
instance : Siz Tryd.prog 115 1 := ⟨Tryd.sizeOf115⟩
instance : Agg Tryd.prog 115 false := ⟨Tryd.isAgg115⟩
instance : Zer Tryd.prog 115 (.nilFunc) := ⟨Tryd.zeroValue115⟩
instance : Inf Tryd.prog 115 1 8 (.nilFunc) := ⟨inf_of (by kernel_rfl)⟩
instance : Cel Tryd.prog 116 1 := ⟨by kernel_rfl⟩
instance : Siz Tryd.prog 116 1 := ⟨Tryd.sizeOf116⟩
instance : Agg Tryd.prog 116 false := ⟨Tryd.isAgg116⟩
instance : Zer Tryd.prog 116 (.nilFunc) := ⟨Tryd.zeroValue116⟩
instance : Inf Tryd.prog 116 1 8 (.nilFunc) := ⟨inf_of (by kernel_rfl)⟩
instance : Cel Tryd.prog 117 1 := ⟨by kernel_rfl⟩
instance : Siz Tryd.prog 117 1 := ⟨Tryd.sizeOf117⟩
instance : Agg Tryd.prog 117 false := ⟨Tryd.isAgg117⟩
instance : Zer Tryd.prog 117 (.nilFunc) := ⟨Tryd.zeroValue117⟩
instance : Inf Tryd.prog 117 1 8 (.nilFunc) := ⟨inf_of (by kernel_rfl)⟩
instance : Cel Tryd.prog 118 1 := ⟨by kernel_rfl⟩
instance : Siz Tryd.prog 118 1 := ⟨Tryd.sizeOf118⟩
instance : Agg Tryd.prog 118 false := ⟨Tryd.isAgg118⟩
instance : Zer Tryd.prog 118 (.nilFunc) := ⟨Tryd.zeroValue118⟩
instance : Inf Tryd.prog 118 1 8 (.nilFunc) := ⟨inf_of (by kernel_rfl)⟩
instance : Cel Tryd.prog 119 1 := ⟨by kernel_rfl⟩
instance : Siz Tryd.prog 119 1 := ⟨Tryd.sizeOf119⟩
instance : Agg Tryd.prog 119 false := ⟨Tryd.isAgg119⟩
instance : Zer Tryd.prog 119 (.nilFunc) := ⟨Tryd.zeroValue119⟩
instance : Inf Tryd.prog 119 1 8 (.nilFunc) := ⟨inf_of (by kernel_rfl)⟩
instance : Cel Tryd.prog 120 1 := ⟨by kernel_rfl⟩
instance : Siz Tryd.prog 120 1 := ⟨Tryd.sizeOf120⟩
instance : Agg Tryd.prog 120 false := ⟨Tryd.isAgg120⟩
instance : Zer Tryd.prog 120 (.nilFunc) := ⟨Tryd.zeroValue120⟩
instance : Inf Tryd.prog 120 1 8 (.nilFunc) := ⟨inf_of (by kernel_rfl)⟩
instance : Cel Tryd.prog 121 11 := ⟨by kernel_rfl⟩
instance : Siz Tryd.prog 121 11 := ⟨Tryd.sizeOf121⟩
instance : Agg Tryd.prog 121 true := ⟨Tryd.isAgg121⟩
instance : Zer Tryd.prog 121 (.agg #[.bool false, .string ⟨#[]⟩, .bool false, .int .i64 0, .bool false, .int .i64 0, .int .i64 0, .string ⟨#[]⟩, .bool false, .slice none 0 0, .int .i64 0]) := ⟨Tryd.zeroValue121⟩
instance : Inf Tryd.prog 121 11 120 (.agg #[.bool false, .string ⟨#[]⟩, .bool false, .int .i64 0, .bool false, .int .i64 0, .int .i64 0, .string ⟨#[]⟩, .bool false, .slice none 0 0, .int .i64 0]) := ⟨inf_of (by kernel_rfl)⟩
instance : Plc Tryd.prog 121 [(0, 1), (1, 1), (2, 1), (3, 1), (4, 1), (5, 3), (8, 1), (9, 1), (10, 1)] := ⟨⟨_, Tryd.runUnderlying121, fun w => by simp [Tryd.sizeOf3, Tryd.sizeOf33, Tryd.sizeOf4, Tryd.sizeOf57, Tryd.sizeOf9]⟩⟩
instance : Fld Tryd.prog 121 0 0 := ⟨fun w a => by simp [Instr.fieldAt, Instr.sureAddr, fieldPlace, Tryd.runUnderlying121, Tryd.sizeOf4]⟩
instance : Fld Tryd.prog 121 1 1 := ⟨fun w a => by simp [Instr.fieldAt, Instr.sureAddr, fieldPlace, Tryd.runUnderlying121, Tryd.sizeOf9]⟩
instance : Fld Tryd.prog 121 2 2 := ⟨fun w a => by simp [Instr.fieldAt, Instr.sureAddr, fieldPlace, Tryd.runUnderlying121, Tryd.sizeOf4]⟩
instance : Fld Tryd.prog 121 3 3 := ⟨fun w a => by simp [Instr.fieldAt, Instr.sureAddr, fieldPlace, Tryd.runUnderlying121, Tryd.sizeOf3]⟩
instance : Fld Tryd.prog 121 4 4 := ⟨fun w a => by simp [Instr.fieldAt, Instr.sureAddr, fieldPlace, Tryd.runUnderlying121, Tryd.sizeOf4]⟩
instance : Fld Tryd.prog 121 5 5 := ⟨fun w a => by simp [Instr.fieldAt, Instr.sureAddr, fieldPlace, Tryd.runUnderlying121, Tryd.sizeOf33]⟩
instance : Fld Tryd.prog 121 6 8 := ⟨fun w a => by simp [Instr.fieldAt, Instr.sureAddr, fieldPlace, Tryd.runUnderlying121, Tryd.sizeOf4]⟩
instance : Fld Tryd.prog 121 7 9 := ⟨fun w a => by simp [Instr.fieldAt, Instr.sureAddr, fieldPlace, Tryd.runUnderlying121, Tryd.sizeOf57]⟩
instance : Fld Tryd.prog 121 8 10 := ⟨fun w a => by simp [Instr.fieldAt, Instr.sureAddr, fieldPlace, Tryd.runUnderlying121, Tryd.sizeOf3]⟩
instance : Cel Tryd.prog 122 11 := ⟨by kernel_rfl⟩
instance : Siz Tryd.prog 122 11 := ⟨Tryd.sizeOf122⟩
instance : Agg Tryd.prog 122 true := ⟨Tryd.isAgg122⟩
instance : Zer Tryd.prog 122 (.agg #[.bool false, .string ⟨#[]⟩, .bool false, .int .i64 0, .bool false, .int .i64 0, .int .i64 0, .string ⟨#[]⟩, .bool false, .slice none 0 0, .int .i64 0]) := ⟨Tryd.zeroValue122⟩
instance : Inf Tryd.prog 122 11 120 (.agg #[.bool false, .string ⟨#[]⟩, .bool false, .int .i64 0, .bool false, .int .i64 0, .int .i64 0, .string ⟨#[]⟩, .bool false, .slice none 0 0, .int .i64 0]) := ⟨inf_of (by kernel_rfl)⟩
instance : Plc Tryd.prog 122 [(0, 1), (1, 1), (2, 1), (3, 1), (4, 1), (5, 3), (8, 1), (9, 1), (10, 1)] := ⟨⟨_, Tryd.runUnderlying122, fun w => by simp [Tryd.sizeOf3, Tryd.sizeOf33, Tryd.sizeOf4, Tryd.sizeOf57, Tryd.sizeOf9]⟩⟩
instance : Fld Tryd.prog 122 0 0 := ⟨fun w a => by simp [Instr.fieldAt, Instr.sureAddr, fieldPlace, Tryd.runUnderlying122, Tryd.sizeOf4]⟩
instance : Fld Tryd.prog 122 1 1 := ⟨fun w a => by simp [Instr.fieldAt, Instr.sureAddr, fieldPlace, Tryd.runUnderlying122, Tryd.sizeOf9]⟩
instance : Fld Tryd.prog 122 2 2 := ⟨fun w a => by simp [Instr.fieldAt, Instr.sureAddr, fieldPlace, Tryd.runUnderlying122, Tryd.sizeOf4]⟩
instance : Fld Tryd.prog 122 3 3 := ⟨fun w a => by simp [Instr.fieldAt, Instr.sureAddr, fieldPlace, Tryd.runUnderlying122, Tryd.sizeOf3]⟩
instance : Fld Tryd.prog 122 4 4 := ⟨fun w a => by simp [Instr.fieldAt, Instr.sureAddr, fieldPlace, Tryd.runUnderlying122, Tryd.sizeOf4]⟩
instance : Fld Tryd.prog 122 5 5 := ⟨fun w a => by simp [Instr.fieldAt, Instr.sureAddr, fieldPlace, Tryd.runUnderlying122, Tryd.sizeOf33]⟩
instance : Fld Tryd.prog 122 6 8 := ⟨fun w a => by simp [Instr.fieldAt, Instr.sureAddr, fieldPlace, Tryd.runUnderlying122, Tryd.sizeOf4]⟩
instance : Fld Tryd.prog 122 7 9 := ⟨fun w a => by simp [Instr.fieldAt, Instr.sureAddr, fieldPlace, Tryd.runUnderlying122, Tryd.sizeOf57]⟩
instance : Fld Tryd.prog 122 8 10 := ⟨fun w a => by simp [Instr.fieldAt, Instr.sureAddr, fieldPlace, Tryd.runUnderlying122, Tryd.sizeOf3]⟩
instance : Cel Tryd.prog 123 1 := ⟨by kernel_rfl⟩
instance : Siz Tryd.prog 123 1 := ⟨Tryd.sizeOf123⟩
instance : Agg Tryd.prog 123 false := ⟨Tryd.isAgg123⟩
instance : Zer Tryd.prog 123 (.nilFunc) := ⟨Tryd.zeroValue123⟩
instance : Inf Tryd.prog 123 1 8 (.nilFunc) := ⟨inf_of (by kernel_rfl)⟩
instance : Cel Tryd.prog 124 1 := ⟨by kernel_rfl⟩
instance : Siz Tryd.prog 124 1 := ⟨Tryd.sizeOf124⟩
instance : Agg Tryd.prog 124 false := ⟨Tryd.isAgg124⟩
instance : Zer Tryd.prog 124 (.nilFunc) := ⟨Tryd.zeroValue124⟩
instance : Inf Tryd.prog 124 1 8 (.nilFunc) := ⟨inf_of (by kernel_rfl)⟩
instance : Cel Tryd.prog 125 1 := ⟨by kernel_rfl⟩
instance : Siz Tryd.prog 125 1 := ⟨Tryd.sizeOf125⟩
instance : Agg Tryd.prog 125 false := ⟨Tryd.isAgg125⟩
instance : Zer Tryd.prog 125 (.nilFunc) := ⟨Tryd.zeroValue125⟩
instance : Inf Tryd.prog 125 1 8 (.nilFunc) := ⟨inf_of (by kernel_rfl)⟩
instance : Cel Tryd.prog 126 1 := ⟨by kernel_rfl⟩
instance : Siz Tryd.prog 126 1 := ⟨Tryd.sizeOf126⟩
instance : Agg Tryd.prog 126 false := ⟨Tryd.isAgg126⟩
instance : Zer Tryd.prog 126 (.nilFunc) := ⟨Tryd.zeroValue126⟩
instance : Inf Tryd.prog 126 1 8 (.nilFunc) := ⟨inf_of (by kernel_rfl)⟩
instance : Cel Tryd.prog 127 1 := ⟨by kernel_rfl⟩
instance : Siz Tryd.prog 127 1 := ⟨Tryd.sizeOf127⟩
instance : Agg Tryd.prog 127 false := ⟨Tryd.isAgg127⟩
instance : Zer Tryd.prog 127 (.nilFunc) := ⟨Tryd.zeroValue127⟩
instance : Inf Tryd.prog 127 1 8 (.nilFunc) := ⟨inf_of (by kernel_rfl)⟩
instance : Cel Tryd.prog 128 1 := ⟨by kernel_rfl⟩
instance : Siz Tryd.prog 128 1 := ⟨Tryd.sizeOf128⟩
instance : Cel Tryd.prog 129 1 := ⟨by kernel_rfl⟩
instance : Siz Tryd.prog 129 1 := ⟨Tryd.sizeOf129⟩
instance : Agg Tryd.prog 129 false := ⟨Tryd.isAgg129⟩
instance : Zer Tryd.prog 129 (.nilFunc) := ⟨Tryd.zeroValue129⟩
instance : Inf Tryd.prog 129 1 8 (.nilFunc) := ⟨inf_of (by kernel_rfl)⟩
instance : Cel Tryd.prog 130 1 := ⟨by kernel_rfl⟩
instance : Siz Tryd.prog 130 1 := ⟨Tryd.sizeOf130⟩
instance : Cel Tryd.prog 131 1 := ⟨by kernel_rfl⟩
instance : Siz Tryd.prog 131 1 := ⟨Tryd.sizeOf131⟩
instance : Agg Tryd.prog 131 false := ⟨Tryd.isAgg131⟩
instance : Zer Tryd.prog 131 (.nilFunc) := ⟨Tryd.zeroValue131⟩
instance : Inf Tryd.prog 131 1 8 (.nilFunc) := ⟨inf_of (by kernel_rfl)⟩
instance : Cel Tryd.prog 132 1 := ⟨by kernel_rfl⟩
instance : Siz Tryd.prog 132 1 := ⟨Tryd.sizeOf132⟩
instance : Agg Tryd.prog 132 false := ⟨Tryd.isAgg132⟩
instance : Zer Tryd.prog 132 (.nilFunc) := ⟨Tryd.zeroValue132⟩
instance : Inf Tryd.prog 132 1 8 (.nilFunc) := ⟨inf_of (by kernel_rfl)⟩
instance : Cel Tryd.prog 133 1 := ⟨by kernel_rfl⟩
instance : Siz Tryd.prog 133 1 := ⟨Tryd.sizeOf133⟩
instance : Agg Tryd.prog 133 false := ⟨Tryd.isAgg133⟩
instance : Zer Tryd.prog 133 (.nilFunc) := ⟨Tryd.zeroValue133⟩
instance : Inf Tryd.prog 133 1 8 (.nilFunc) := ⟨inf_of (by kernel_rfl)⟩
instance : Cel Tryd.prog 134 1 := ⟨by kernel_rfl⟩
instance : Siz Tryd.prog 134 1 := ⟨Tryd.sizeOf134⟩
instance : Cel Tryd.prog 135 1 := ⟨by kernel_rfl⟩
instance : Siz Tryd.prog 135 1 := ⟨Tryd.sizeOf135⟩
instance : Agg Tryd.prog 135 false := ⟨Tryd.isAgg135⟩
instance : Zer Tryd.prog 135 (.nilFunc) := ⟨Tryd.zeroValue135⟩
instance : Inf Tryd.prog 135 1 8 (.nilFunc) := ⟨inf_of (by kernel_rfl)⟩
instance : Cel Tryd.prog 136 1 := ⟨by kernel_rfl⟩
instance : Siz Tryd.prog 136 1 := ⟨Tryd.sizeOf136⟩
instance : Agg Tryd.prog 136 false := ⟨Tryd.isAgg136⟩
instance : Zer Tryd.prog 136 (.nilFunc) := ⟨Tryd.zeroValue136⟩
instance : Inf Tryd.prog 136 1 8 (.nilFunc) := ⟨inf_of (by kernel_rfl)⟩
instance : Und Tryd.prog 137 (.pointer 5) := ⟨Tryd.underlying137⟩
instance : Cel Tryd.prog 137 1 := ⟨by kernel_rfl⟩
instance : Siz Tryd.prog 137 1 := ⟨Tryd.sizeOf137⟩
instance : Agg Tryd.prog 137 false := ⟨Tryd.isAgg137⟩
instance : Zer Tryd.prog 137 (.pointer none) := ⟨Tryd.zeroValue137⟩
instance : Inf Tryd.prog 137 1 8 (.pointer none) := ⟨inf_of (by kernel_rfl)⟩
instance : Und Tryd.prog 138 (.slice 9) := ⟨Tryd.underlying138⟩
instance : Cel Tryd.prog 138 1 := ⟨by kernel_rfl⟩
instance : Siz Tryd.prog 138 1 := ⟨Tryd.sizeOf138⟩
instance : Agg Tryd.prog 138 false := ⟨Tryd.isAgg138⟩
instance : Zer Tryd.prog 138 (.slice none 0 0) := ⟨Tryd.zeroValue138⟩
instance : Inf Tryd.prog 138 1 24 (.slice none 0 0) := ⟨inf_of (by kernel_rfl)⟩
instance : Cel Tryd.prog 139 1 := ⟨by kernel_rfl⟩
instance : Siz Tryd.prog 139 1 := ⟨Tryd.sizeOf139⟩
instance : Agg Tryd.prog 139 false := ⟨Tryd.isAgg139⟩
instance : Zer Tryd.prog 139 (.nilFunc) := ⟨Tryd.zeroValue139⟩
instance : Inf Tryd.prog 139 1 8 (.nilFunc) := ⟨inf_of (by kernel_rfl)⟩
instance : Cel Tryd.prog 140 1 := ⟨by kernel_rfl⟩
instance : Siz Tryd.prog 140 1 := ⟨Tryd.sizeOf140⟩
instance : Agg Tryd.prog 140 false := ⟨Tryd.isAgg140⟩
instance : Zer Tryd.prog 140 (.nilFunc) := ⟨Tryd.zeroValue140⟩
instance : Inf Tryd.prog 140 1 8 (.nilFunc) := ⟨inf_of (by kernel_rfl)⟩
instance : Cel Tryd.prog 141 1 := ⟨by kernel_rfl⟩
instance : Siz Tryd.prog 141 1 := ⟨Tryd.sizeOf141⟩
instance : Agg Tryd.prog 141 false := ⟨Tryd.isAgg141⟩
instance : Zer Tryd.prog 141 (.nilFunc) := ⟨Tryd.zeroValue141⟩
instance : Inf Tryd.prog 141 1 8 (.nilFunc) := ⟨inf_of (by kernel_rfl)⟩
instance : Cel Tryd.prog 142 1 := ⟨by kernel_rfl⟩
instance : Siz Tryd.prog 142 1 := ⟨Tryd.sizeOf142⟩
instance : Agg Tryd.prog 142 false := ⟨Tryd.isAgg142⟩
instance : Zer Tryd.prog 142 (.nilFunc) := ⟨Tryd.zeroValue142⟩
instance : Inf Tryd.prog 142 1 8 (.nilFunc) := ⟨inf_of (by kernel_rfl)⟩
instance : Cel Tryd.prog 143 1 := ⟨by kernel_rfl⟩
instance : Siz Tryd.prog 143 1 := ⟨Tryd.sizeOf143⟩
instance : Agg Tryd.prog 143 false := ⟨Tryd.isAgg143⟩
instance : Zer Tryd.prog 143 (.nilFunc) := ⟨Tryd.zeroValue143⟩
instance : Inf Tryd.prog 143 1 8 (.nilFunc) := ⟨inf_of (by kernel_rfl)⟩
instance : Cel Tryd.prog 144 1 := ⟨by kernel_rfl⟩
instance : Siz Tryd.prog 144 1 := ⟨Tryd.sizeOf144⟩
instance : Agg Tryd.prog 144 false := ⟨Tryd.isAgg144⟩
instance : Zer Tryd.prog 144 (.nilFunc) := ⟨Tryd.zeroValue144⟩
instance : Inf Tryd.prog 144 1 8 (.nilFunc) := ⟨inf_of (by kernel_rfl)⟩
instance : Cel Tryd.prog 145 1 := ⟨by kernel_rfl⟩
instance : Siz Tryd.prog 145 1 := ⟨Tryd.sizeOf145⟩
instance : Cel Tryd.prog 146 1 := ⟨by kernel_rfl⟩
instance : Siz Tryd.prog 146 1 := ⟨Tryd.sizeOf146⟩
instance : Agg Tryd.prog 146 false := ⟨Tryd.isAgg146⟩
instance : Zer Tryd.prog 146 (.nilFunc) := ⟨Tryd.zeroValue146⟩
instance : Inf Tryd.prog 146 1 8 (.nilFunc) := ⟨inf_of (by kernel_rfl)⟩
instance : Und Tryd.prog 147 (.int .u64) := ⟨Tryd.underlying147⟩
instance : Cel Tryd.prog 147 1 := ⟨by kernel_rfl⟩
instance : Siz Tryd.prog 147 1 := ⟨Tryd.sizeOf147⟩
instance : Agg Tryd.prog 147 false := ⟨Tryd.isAgg147⟩
instance : Zer Tryd.prog 147 (.int .u64 0) := ⟨Tryd.zeroValue147⟩
instance : Inf Tryd.prog 147 1 8 (.int .u64 0) := ⟨inf_of (by kernel_rfl)⟩
instance : Cel Tryd.prog 148 1 := ⟨by kernel_rfl⟩
instance : Siz Tryd.prog 148 1 := ⟨Tryd.sizeOf148⟩
instance : Cel Tryd.prog 149 1 := ⟨by kernel_rfl⟩
instance : Siz Tryd.prog 149 1 := ⟨Tryd.sizeOf149⟩
instance : Agg Tryd.prog 149 false := ⟨Tryd.isAgg149⟩
instance : Zer Tryd.prog 149 (.nilFunc) := ⟨Tryd.zeroValue149⟩
instance : Inf Tryd.prog 149 1 8 (.nilFunc) := ⟨inf_of (by kernel_rfl)⟩
instance : Cel Tryd.prog 150 1 := ⟨by kernel_rfl⟩
instance : Siz Tryd.prog 150 1 := ⟨Tryd.sizeOf150⟩
instance : Agg Tryd.prog 150 false := ⟨Tryd.isAgg150⟩
instance : Zer Tryd.prog 150 (.nilFunc) := ⟨Tryd.zeroValue150⟩
instance : Inf Tryd.prog 150 1 8 (.nilFunc) := ⟨inf_of (by kernel_rfl)⟩
instance : Cel Tryd.prog 151 1 := ⟨by kernel_rfl⟩
instance : Siz Tryd.prog 151 1 := ⟨Tryd.sizeOf151⟩
instance : Agg Tryd.prog 151 false := ⟨Tryd.isAgg151⟩
instance : Zer Tryd.prog 151 (.nilFunc) := ⟨Tryd.zeroValue151⟩
instance : Inf Tryd.prog 151 1 8 (.nilFunc) := ⟨inf_of (by kernel_rfl)⟩
instance : Cel Tryd.prog 152 1 := ⟨by kernel_rfl⟩
instance : Siz Tryd.prog 152 1 := ⟨Tryd.sizeOf152⟩
instance : Agg Tryd.prog 152 false := ⟨Tryd.isAgg152⟩
instance : Zer Tryd.prog 152 (.nilFunc) := ⟨Tryd.zeroValue152⟩
instance : Inf Tryd.prog 152 1 8 (.nilFunc) := ⟨inf_of (by kernel_rfl)⟩
instance : Cel Tryd.prog 153 1 := ⟨by kernel_rfl⟩
instance : Siz Tryd.prog 153 1 := ⟨Tryd.sizeOf153⟩
instance : Agg Tryd.prog 153 false := ⟨Tryd.isAgg153⟩
instance : Zer Tryd.prog 153 (.nilFunc) := ⟨Tryd.zeroValue153⟩
instance : Inf Tryd.prog 153 1 8 (.nilFunc) := ⟨inf_of (by kernel_rfl)⟩
instance : Cel Tryd.prog 154 1 := ⟨by kernel_rfl⟩
instance : Siz Tryd.prog 154 1 := ⟨Tryd.sizeOf154⟩
instance : Agg Tryd.prog 154 false := ⟨Tryd.isAgg154⟩
instance : Zer Tryd.prog 154 (.nilFunc) := ⟨Tryd.zeroValue154⟩
instance : Inf Tryd.prog 154 1 8 (.nilFunc) := ⟨inf_of (by kernel_rfl)⟩
instance : Cel Tryd.prog 155 1 := ⟨by kernel_rfl⟩
instance : Siz Tryd.prog 155 1 := ⟨Tryd.sizeOf155⟩
instance : Agg Tryd.prog 155 false := ⟨Tryd.isAgg155⟩
instance : Zer Tryd.prog 155 (.nilFunc) := ⟨Tryd.zeroValue155⟩
instance : Inf Tryd.prog 155 1 8 (.nilFunc) := ⟨inf_of (by kernel_rfl)⟩
instance : Cel Tryd.prog 156 1 := ⟨by kernel_rfl⟩
instance : Siz Tryd.prog 156 1 := ⟨Tryd.sizeOf156⟩
instance : Cel Tryd.prog 157 1 := ⟨by kernel_rfl⟩
instance : Siz Tryd.prog 157 1 := ⟨Tryd.sizeOf157⟩
instance : Agg Tryd.prog 157 false := ⟨Tryd.isAgg157⟩
instance : Zer Tryd.prog 157 (.nilFunc) := ⟨Tryd.zeroValue157⟩
instance : Inf Tryd.prog 157 1 8 (.nilFunc) := ⟨inf_of (by kernel_rfl)⟩
instance : Cel Tryd.prog 158 1 := ⟨by kernel_rfl⟩
instance : Siz Tryd.prog 158 1 := ⟨Tryd.sizeOf158⟩
instance : Agg Tryd.prog 158 false := ⟨Tryd.isAgg158⟩
instance : Zer Tryd.prog 158 (.nilFunc) := ⟨Tryd.zeroValue158⟩
instance : Inf Tryd.prog 158 1 8 (.nilFunc) := ⟨inf_of (by kernel_rfl)⟩
instance : Cel Tryd.prog 159 1 := ⟨by kernel_rfl⟩
instance : Siz Tryd.prog 159 1 := ⟨Tryd.sizeOf159⟩
instance : Agg Tryd.prog 159 false := ⟨Tryd.isAgg159⟩
instance : Zer Tryd.prog 159 (.pointer none) := ⟨Tryd.zeroValue159⟩
instance : Inf Tryd.prog 159 1 8 (.pointer none) := ⟨inf_of (by kernel_rfl)⟩
instance : Cel Tryd.prog 160 1 := ⟨by kernel_rfl⟩
instance : Siz Tryd.prog 160 1 := ⟨Tryd.sizeOf160⟩
instance : Agg Tryd.prog 160 false := ⟨Tryd.isAgg160⟩
instance : Zer Tryd.prog 160 (.nilFunc) := ⟨Tryd.zeroValue160⟩
instance : Inf Tryd.prog 160 1 8 (.nilFunc) := ⟨inf_of (by kernel_rfl)⟩
instance : Cel Tryd.prog 161 1 := ⟨by kernel_rfl⟩
instance : Siz Tryd.prog 161 1 := ⟨Tryd.sizeOf161⟩
instance : Agg Tryd.prog 161 false := ⟨Tryd.isAgg161⟩
instance : Zer Tryd.prog 161 (.nilFunc) := ⟨Tryd.zeroValue161⟩
instance : Inf Tryd.prog 161 1 8 (.nilFunc) := ⟨inf_of (by kernel_rfl)⟩
instance : Und Tryd.prog 162 (.slice 4) := ⟨Tryd.underlying162⟩
instance : Cel Tryd.prog 162 1 := ⟨by kernel_rfl⟩
instance : Siz Tryd.prog 162 1 := ⟨Tryd.sizeOf162⟩
instance : Agg Tryd.prog 162 false := ⟨Tryd.isAgg162⟩
instance : Zer Tryd.prog 162 (.slice none 0 0) := ⟨Tryd.zeroValue162⟩
instance : Inf Tryd.prog 162 1 24 (.slice none 0 0) := ⟨inf_of (by kernel_rfl)⟩
instance : Cel Tryd.prog 163 1 := ⟨by kernel_rfl⟩
instance : Siz Tryd.prog 163 1 := ⟨Tryd.sizeOf163⟩
instance : Agg Tryd.prog 163 false := ⟨Tryd.isAgg163⟩
instance : Zer Tryd.prog 163 (.nilFunc) := ⟨Tryd.zeroValue163⟩
instance : Inf Tryd.prog 163 1 8 (.nilFunc) := ⟨inf_of (by kernel_rfl)⟩
instance : Cel Tryd.prog 164 1 := ⟨by kernel_rfl⟩
instance : Siz Tryd.prog 164 1 := ⟨Tryd.sizeOf164⟩
instance : Agg Tryd.prog 164 false := ⟨Tryd.isAgg164⟩
instance : Zer Tryd.prog 164 (.nilFunc) := ⟨Tryd.zeroValue164⟩
instance : Inf Tryd.prog 164 1 8 (.nilFunc) := ⟨inf_of (by kernel_rfl)⟩
instance : Cel Tryd.prog 165 1 := ⟨by kernel_rfl⟩
instance : Siz Tryd.prog 165 1 := ⟨Tryd.sizeOf165⟩
instance : Agg Tryd.prog 165 false := ⟨Tryd.isAgg165⟩
instance : Zer Tryd.prog 165 (.nilFunc) := ⟨Tryd.zeroValue165⟩
instance : Inf Tryd.prog 165 1 8 (.nilFunc) := ⟨inf_of (by kernel_rfl)⟩
instance : Und Tryd.prog 166 (.int .u32) := ⟨Tryd.underlying166⟩
instance : Cel Tryd.prog 166 1 := ⟨by kernel_rfl⟩
instance : Siz Tryd.prog 166 1 := ⟨Tryd.sizeOf166⟩
instance : Agg Tryd.prog 166 false := ⟨Tryd.isAgg166⟩
instance : Zer Tryd.prog 166 (.int .u32 0) := ⟨Tryd.zeroValue166⟩
instance : Inf Tryd.prog 166 1 4 (.int .u32 0) := ⟨inf_of (by kernel_rfl)⟩
instance : Cel Tryd.prog 167 1 := ⟨by kernel_rfl⟩
instance : Siz Tryd.prog 167 1 := ⟨Tryd.sizeOf167⟩
instance : Cel Tryd.prog 168 1 := ⟨by kernel_rfl⟩
instance : Siz Tryd.prog 168 1 := ⟨Tryd.sizeOf168⟩
instance : Agg Tryd.prog 168 false := ⟨Tryd.isAgg168⟩
instance : Zer Tryd.prog 168 (.nilFunc) := ⟨Tryd.zeroValue168⟩
instance : Inf Tryd.prog 168 1 8 (.nilFunc) := ⟨inf_of (by kernel_rfl)⟩
instance : Cel Tryd.prog 169 1 := ⟨by kernel_rfl⟩
instance : Siz Tryd.prog 169 1 := ⟨Tryd.sizeOf169⟩
instance : Cel Tryd.prog 170 1 := ⟨by kernel_rfl⟩
instance : Siz Tryd.prog 170 1 := ⟨Tryd.sizeOf170⟩
instance : Agg Tryd.prog 170 false := ⟨Tryd.isAgg170⟩
instance : Zer Tryd.prog 170 (.nilFunc) := ⟨Tryd.zeroValue170⟩
instance : Inf Tryd.prog 170 1 8 (.nilFunc) := ⟨inf_of (by kernel_rfl)⟩
instance : Cel Tryd.prog 171 1 := ⟨by kernel_rfl⟩
instance : Siz Tryd.prog 171 1 := ⟨Tryd.sizeOf171⟩
instance : Agg Tryd.prog 171 false := ⟨Tryd.isAgg171⟩
instance : Zer Tryd.prog 171 (.nilFunc) := ⟨Tryd.zeroValue171⟩
instance : Inf Tryd.prog 171 1 8 (.nilFunc) := ⟨inf_of (by kernel_rfl)⟩
instance : Cel Tryd.prog 172 1 := ⟨by kernel_rfl⟩
instance : Siz Tryd.prog 172 1 := ⟨Tryd.sizeOf172⟩
instance : Agg Tryd.prog 172 false := ⟨Tryd.isAgg172⟩
instance : Zer Tryd.prog 172 (.nilFunc) := ⟨Tryd.zeroValue172⟩
instance : Inf Tryd.prog 172 1 8 (.nilFunc) := ⟨inf_of (by kernel_rfl)⟩
instance : Cel Tryd.prog 173 1 := ⟨by kernel_rfl⟩
instance : Siz Tryd.prog 173 1 := ⟨Tryd.sizeOf173⟩
instance : Cel Tryd.prog 174 1 := ⟨by kernel_rfl⟩
instance : Siz Tryd.prog 174 1 := ⟨Tryd.sizeOf174⟩
instance : Agg Tryd.prog 174 false := ⟨Tryd.isAgg174⟩
instance : Zer Tryd.prog 174 (.nilFunc) := ⟨Tryd.zeroValue174⟩
instance : Inf Tryd.prog 174 1 8 (.nilFunc) := ⟨inf_of (by kernel_rfl)⟩
instance : Cel Tryd.prog 175 1 := ⟨by kernel_rfl⟩
instance : Siz Tryd.prog 175 1 := ⟨Tryd.sizeOf175⟩
instance : Agg Tryd.prog 175 false := ⟨Tryd.isAgg175⟩
instance : Zer Tryd.prog 175 (.nilFunc) := ⟨Tryd.zeroValue175⟩
instance : Inf Tryd.prog 175 1 8 (.nilFunc) := ⟨inf_of (by kernel_rfl)⟩
instance : Cel Tryd.prog 176 1 := ⟨by kernel_rfl⟩
instance : Siz Tryd.prog 176 1 := ⟨Tryd.sizeOf176⟩
instance : Agg Tryd.prog 176 false := ⟨Tryd.isAgg176⟩
instance : Zer Tryd.prog 176 (.nilFunc) := ⟨Tryd.zeroValue176⟩
instance : Inf Tryd.prog 176 1 8 (.nilFunc) := ⟨inf_of (by kernel_rfl)⟩
instance : Cel Tryd.prog 177 1 := ⟨by kernel_rfl⟩
instance : Siz Tryd.prog 177 1 := ⟨Tryd.sizeOf177⟩
instance : Agg Tryd.prog 177 false := ⟨Tryd.isAgg177⟩
instance : Zer Tryd.prog 177 (.nilFunc) := ⟨Tryd.zeroValue177⟩
instance : Inf Tryd.prog 177 1 8 (.nilFunc) := ⟨inf_of (by kernel_rfl)⟩
instance : Cel Tryd.prog 178 1 := ⟨by kernel_rfl⟩
instance : Siz Tryd.prog 178 1 := ⟨Tryd.sizeOf178⟩
instance : Agg Tryd.prog 178 false := ⟨Tryd.isAgg178⟩
instance : Zer Tryd.prog 178 (.nilFunc) := ⟨Tryd.zeroValue178⟩
instance : Inf Tryd.prog 178 1 8 (.nilFunc) := ⟨inf_of (by kernel_rfl)⟩
instance : Cel Tryd.prog 179 1 := ⟨by kernel_rfl⟩
instance : Siz Tryd.prog 179 1 := ⟨Tryd.sizeOf179⟩
instance : Agg Tryd.prog 179 false := ⟨Tryd.isAgg179⟩
instance : Zer Tryd.prog 179 (.nilFunc) := ⟨Tryd.zeroValue179⟩
instance : Inf Tryd.prog 179 1 8 (.nilFunc) := ⟨inf_of (by kernel_rfl)⟩
instance : Cel Tryd.prog 180 1 := ⟨by kernel_rfl⟩
instance : Siz Tryd.prog 180 1 := ⟨Tryd.sizeOf180⟩
instance : Agg Tryd.prog 180 false := ⟨Tryd.isAgg180⟩
instance : Zer Tryd.prog 180 (.nilFunc) := ⟨Tryd.zeroValue180⟩
instance : Inf Tryd.prog 180 1 8 (.nilFunc) := ⟨inf_of (by kernel_rfl)⟩
instance : Cel Tryd.prog 181 1 := ⟨by kernel_rfl⟩
instance : Siz Tryd.prog 181 1 := ⟨Tryd.sizeOf181⟩
instance : Agg Tryd.prog 181 false := ⟨Tryd.isAgg181⟩
instance : Zer Tryd.prog 181 (.nilFunc) := ⟨Tryd.zeroValue181⟩
instance : Inf Tryd.prog 181 1 8 (.nilFunc) := ⟨inf_of (by kernel_rfl)⟩
instance : Und Tryd.prog 182 (.int .i64) := ⟨Tryd.underlying182⟩
instance : Cel Tryd.prog 182 1 := ⟨by kernel_rfl⟩
instance : Siz Tryd.prog 182 1 := ⟨Tryd.sizeOf182⟩
instance : Agg Tryd.prog 182 false := ⟨Tryd.isAgg182⟩
instance : Zer Tryd.prog 182 (.int .i64 0) := ⟨Tryd.zeroValue182⟩
instance : Inf Tryd.prog 182 1 8 (.int .i64 0) := ⟨inf_of (by kernel_rfl)⟩
instance : Und Tryd.prog 183 (.int .u64) := ⟨Tryd.underlying183⟩
instance : Cel Tryd.prog 183 1 := ⟨by kernel_rfl⟩
instance : Siz Tryd.prog 183 1 := ⟨Tryd.sizeOf183⟩
instance : Agg Tryd.prog 183 false := ⟨Tryd.isAgg183⟩
instance : Zer Tryd.prog 183 (.int .u64 0) := ⟨Tryd.zeroValue183⟩
instance : Inf Tryd.prog 183 1 8 (.int .u64 0) := ⟨inf_of (by kernel_rfl)⟩
instance : Cel Tryd.prog 184 1 := ⟨by kernel_rfl⟩
instance : Siz Tryd.prog 184 1 := ⟨Tryd.sizeOf184⟩
instance : Cel Tryd.prog 185 1 := ⟨by kernel_rfl⟩
instance : Siz Tryd.prog 185 1 := ⟨Tryd.sizeOf185⟩
instance : Agg Tryd.prog 185 false := ⟨Tryd.isAgg185⟩
instance : Zer Tryd.prog 185 (.nilFunc) := ⟨Tryd.zeroValue185⟩
instance : Inf Tryd.prog 185 1 8 (.nilFunc) := ⟨inf_of (by kernel_rfl)⟩
instance : Und Tryd.prog 186 (.pointer 197) := ⟨Tryd.underlying186⟩
instance : Cel Tryd.prog 186 1 := ⟨by kernel_rfl⟩
instance : Siz Tryd.prog 186 1 := ⟨Tryd.sizeOf186⟩
instance : Agg Tryd.prog 186 false := ⟨Tryd.isAgg186⟩
instance : Zer Tryd.prog 186 (.pointer none) := ⟨Tryd.zeroValue186⟩
instance : Inf Tryd.prog 186 1 8 (.pointer none) := ⟨inf_of (by kernel_rfl)⟩
instance : Cel Tryd.prog 187 1 := ⟨by kernel_rfl⟩
instance : Siz Tryd.prog 187 1 := ⟨Tryd.sizeOf187⟩
instance : Agg Tryd.prog 187 false := ⟨Tryd.isAgg187⟩
instance : Zer Tryd.prog 187 (.nilFunc) := ⟨Tryd.zeroValue187⟩
instance : Inf Tryd.prog 187 1 8 (.nilFunc) := ⟨inf_of (by kernel_rfl)⟩
instance : Cel Tryd.prog 188 1 := ⟨by kernel_rfl⟩
instance : Siz Tryd.prog 188 1 := ⟨Tryd.sizeOf188⟩
instance : Agg Tryd.prog 188 false := ⟨Tryd.isAgg188⟩
instance : Zer Tryd.prog 188 (.nilFunc) := ⟨Tryd.zeroValue188⟩
instance : Inf Tryd.prog 188 1 8 (.nilFunc) := ⟨inf_of (by kernel_rfl)⟩
instance : Und Tryd.prog 189 (.array 24 5) := ⟨Tryd.underlying189⟩
instance : Cel Tryd.prog 189 24 := ⟨by kernel_rfl⟩
instance : Siz Tryd.prog 189 24 := ⟨Tryd.sizeOf189⟩
instance : Agg Tryd.prog 189 true := ⟨Tryd.isAgg189⟩
instance : Zer Tryd.prog 189 (.agg #[.int .u8 0, .int .u8 0, .int .u8 0, .int .u8 0, .int .u8 0, .int .u8 0, .int .u8 0, .int .u8 0, .int .u8 0, .int .u8 0, .int .u8 0, .int .u8 0, .int .u8 0, .int .u8 0, .int .u8 0, .int .u8 0, .int .u8 0, .int .u8 0, .int .u8 0, .int .u8 0, .int .u8 0, .int .u8 0, .int .u8 0, .int .u8 0]) := ⟨Tryd.zeroValue189⟩
instance : Inf Tryd.prog 189 24 24 (.agg #[.int .u8 0, .int .u8 0, .int .u8 0, .int .u8 0, .int .u8 0, .int .u8 0, .int .u8 0, .int .u8 0, .int .u8 0, .int .u8 0, .int .u8 0, .int .u8 0, .int .u8 0, .int .u8 0, .int .u8 0, .int .u8 0, .int .u8 0, .int .u8 0, .int .u8 0, .int .u8 0, .int .u8 0, .int .u8 0, .int .u8 0, .int .u8 0]) := ⟨inf_of (by kernel_rfl)⟩
instance : Cel Tryd.prog 190 1 := ⟨by kernel_rfl⟩
instance : Siz Tryd.prog 190 1 := ⟨Tryd.sizeOf190⟩
instance : Agg Tryd.prog 190 false := ⟨Tryd.isAgg190⟩
instance : Zer Tryd.prog 190 (.nilFunc) := ⟨Tryd.zeroValue190⟩
instance : Inf Tryd.prog 190 1 8 (.nilFunc) := ⟨inf_of (by kernel_rfl)⟩
instance : Cel Tryd.prog 191 1 := ⟨by kernel_rfl⟩
instance : Siz Tryd.prog 191 1 := ⟨Tryd.sizeOf191⟩
instance : Agg Tryd.prog 191 false := ⟨Tryd.isAgg191⟩
instance : Zer Tryd.prog 191 (.nilFunc) := ⟨Tryd.zeroValue191⟩
instance : Inf Tryd.prog 191 1 8 (.nilFunc) := ⟨inf_of (by kernel_rfl)⟩
instance : Cel Tryd.prog 192 1 := ⟨by kernel_rfl⟩
instance : Siz Tryd.prog 192 1 := ⟨Tryd.sizeOf192⟩
instance : Cel Tryd.prog 193 1 := ⟨by kernel_rfl⟩
instance : Siz Tryd.prog 193 1 := ⟨Tryd.sizeOf193⟩
instance : Agg Tryd.prog 193 false := ⟨Tryd.isAgg193⟩
instance : Zer Tryd.prog 193 (.nilFunc) := ⟨Tryd.zeroValue193⟩
instance : Inf Tryd.prog 193 1 8 (.nilFunc) := ⟨inf_of (by kernel_rfl)⟩
instance : Cel Tryd.prog 194 1 := ⟨by kernel_rfl⟩
instance : Siz Tryd.prog 194 1 := ⟨Tryd.sizeOf194⟩
instance : Agg Tryd.prog 194 false := ⟨Tryd.isAgg194⟩
instance : Zer Tryd.prog 194 (.nilFunc) := ⟨Tryd.zeroValue194⟩
instance : Inf Tryd.prog 194 1 8 (.nilFunc) := ⟨inf_of (by kernel_rfl)⟩
instance : Cel Tryd.prog 195 1 := ⟨by kernel_rfl⟩
instance : Siz Tryd.prog 195 1 := ⟨Tryd.sizeOf195⟩
instance : Agg Tryd.prog 195 false := ⟨Tryd.isAgg195⟩
instance : Zer Tryd.prog 195 (.nilFunc) := ⟨Tryd.zeroValue195⟩
instance : Inf Tryd.prog 195 1 8 (.nilFunc) := ⟨inf_of (by kernel_rfl)⟩
instance : Cel Tryd.prog 196 3 := ⟨by kernel_rfl⟩
instance : Siz Tryd.prog 196 3 := ⟨Tryd.sizeOf196⟩
instance : Agg Tryd.prog 196 true := ⟨Tryd.isAgg196⟩
instance : Zer Tryd.prog 196 (.agg #[.string ⟨#[]⟩, .string ⟨#[]⟩, .nilIface]) := ⟨Tryd.zeroValue196⟩
instance : Inf Tryd.prog 196 3 48 (.agg #[.string ⟨#[]⟩, .string ⟨#[]⟩, .nilIface]) := ⟨inf_of (by kernel_rfl)⟩
instance : Plc Tryd.prog 196 [(0, 1), (1, 1), (2, 1)] := ⟨⟨_, Tryd.runUnderlying196, fun w => by simp [Tryd.sizeOf9, Tryd.sizeOf95]⟩⟩
instance : Fld Tryd.prog 196 0 0 := ⟨fun w a => by simp [Instr.fieldAt, Instr.sureAddr, fieldPlace, Tryd.runUnderlying196, Tryd.sizeOf9]⟩
instance : Fld Tryd.prog 196 1 1 := ⟨fun w a => by simp [Instr.fieldAt, Instr.sureAddr, fieldPlace, Tryd.runUnderlying196, Tryd.sizeOf9]⟩
instance : Fld Tryd.prog 196 2 2 := ⟨fun w a => by simp [Instr.fieldAt, Instr.sureAddr, fieldPlace, Tryd.runUnderlying196, Tryd.sizeOf95]⟩
instance : Cel Tryd.prog 197 3 := ⟨by kernel_rfl⟩
instance : Siz Tryd.prog 197 3 := ⟨Tryd.sizeOf197⟩
instance : Agg Tryd.prog 197 true := ⟨Tryd.isAgg197⟩
instance : Zer Tryd.prog 197 (.agg #[.string ⟨#[]⟩, .string ⟨#[]⟩, .nilIface]) := ⟨Tryd.zeroValue197⟩
instance : Inf Tryd.prog 197 3 48 (.agg #[.string ⟨#[]⟩, .string ⟨#[]⟩, .nilIface]) := ⟨inf_of (by kernel_rfl)⟩
instance : Plc Tryd.prog 197 [(0, 1), (1, 1), (2, 1)] := ⟨⟨_, Tryd.runUnderlying197, fun w => by simp [Tryd.sizeOf9, Tryd.sizeOf95]⟩⟩
instance : Fld Tryd.prog 197 0 0 := ⟨fun w a => by simp [Instr.fieldAt, Instr.sureAddr, fieldPlace, Tryd.runUnderlying197, Tryd.sizeOf9]⟩
instance : Fld Tryd.prog 197 1 1 := ⟨fun w a => by simp [Instr.fieldAt, Instr.sureAddr, fieldPlace, Tryd.runUnderlying197, Tryd.sizeOf9]⟩
instance : Fld Tryd.prog 197 2 2 := ⟨fun w a => by simp [Instr.fieldAt, Instr.sureAddr, fieldPlace, Tryd.runUnderlying197, Tryd.sizeOf95]⟩
instance : Cel Tryd.prog 198 1 := ⟨by kernel_rfl⟩
instance : Siz Tryd.prog 198 1 := ⟨Tryd.sizeOf198⟩
instance : Agg Tryd.prog 198 false := ⟨Tryd.isAgg198⟩
instance : Zer Tryd.prog 198 (.nilFunc) := ⟨Tryd.zeroValue198⟩
instance : Inf Tryd.prog 198 1 8 (.nilFunc) := ⟨inf_of (by kernel_rfl)⟩
instance : Cel Tryd.prog 199 1 := ⟨by kernel_rfl⟩
instance : Siz Tryd.prog 199 1 := ⟨Tryd.sizeOf199⟩
instance : Agg Tryd.prog 199 false := ⟨Tryd.isAgg199⟩
instance : Zer Tryd.prog 199 (.nilFunc) := ⟨Tryd.zeroValue199⟩
instance : Inf Tryd.prog 199 1 8 (.nilFunc) := ⟨inf_of (by kernel_rfl)⟩
instance : Und Tryd.prog 200 (.array 20 183) := ⟨Tryd.underlying200⟩
instance : Cel Tryd.prog 200 20 := ⟨by kernel_rfl⟩
instance : Siz Tryd.prog 200 20 := ⟨Tryd.sizeOf200⟩
instance : Agg Tryd.prog 200 true := ⟨Tryd.isAgg200⟩
instance : Zer Tryd.prog 200 (.agg #[.int .u64 0, .int .u64 0, .int .u64 0, .int .u64 0, .int .u64 0, .int .u64 0, .int .u64 0, .int .u64 0, .int .u64 0, .int .u64 0, .int .u64 0, .int .u64 0, .int .u64 0, .int .u64 0, .int .u64 0, .int .u64 0, .int .u64 0, .int .u64 0, .int .u64 0, .int .u64 0]) := ⟨Tryd.zeroValue200⟩
instance : Inf Tryd.prog 200 20 160 (.agg #[.int .u64 0, .int .u64 0, .int .u64 0, .int .u64 0, .int .u64 0, .int .u64 0, .int .u64 0, .int .u64 0, .int .u64 0, .int .u64 0, .int .u64 0, .int .u64 0, .int .u64 0, .int .u64 0, .int .u64 0, .int .u64 0, .int .u64 0, .int .u64 0, .int .u64 0, .int .u64 0]) := ⟨inf_of (by kernel_rfl)⟩
instance : Und Tryd.prog 201 (.array 65 5) := ⟨Tryd.underlying201⟩
instance : Cel Tryd.prog 201 65 := ⟨by kernel_rfl⟩
instance : Siz Tryd.prog 201 65 := ⟨Tryd.sizeOf201⟩
instance : Agg Tryd.prog 201 true := ⟨Tryd.isAgg201⟩
instance : Cel Tryd.prog 202 1 := ⟨by kernel_rfl⟩
instance : Siz Tryd.prog 202 1 := ⟨Tryd.sizeOf202⟩
instance : Agg Tryd.prog 202 false := ⟨Tryd.isAgg202⟩
instance : Zer Tryd.prog 202 (.nilFunc) := ⟨Tryd.zeroValue202⟩
instance : Inf Tryd.prog 202 1 8 (.nilFunc) := ⟨inf_of (by kernel_rfl)⟩
instance : Und Tryd.prog 203 (.pointer 205) := ⟨Tryd.underlying203⟩
instance : Cel Tryd.prog 203 1 := ⟨by kernel_rfl⟩
instance : Siz Tryd.prog 203 1 := ⟨Tryd.sizeOf203⟩
instance : Agg Tryd.prog 203 false := ⟨Tryd.isAgg203⟩
instance : Zer Tryd.prog 203 (.pointer none) := ⟨Tryd.zeroValue203⟩
instance : Inf Tryd.prog 203 1 8 (.pointer none) := ⟨inf_of (by kernel_rfl)⟩
instance : Cel Tryd.prog 204 1 := ⟨by kernel_rfl⟩
instance : Siz Tryd.prog 204 1 := ⟨Tryd.sizeOf204⟩
instance : Agg Tryd.prog 204 true := ⟨Tryd.isAgg204⟩
instance : Zer Tryd.prog 204 (.agg #[.string ⟨#[]⟩]) := ⟨Tryd.zeroValue204⟩
instance : Inf Tryd.prog 204 1 16 (.agg #[.string ⟨#[]⟩]) := ⟨inf_of (by kernel_rfl)⟩
instance : Plc Tryd.prog 204 [(0, 1)] := ⟨⟨_, Tryd.runUnderlying204, fun w => by simp [Tryd.sizeOf9]⟩⟩
instance : Fld Tryd.prog 204 0 0 := ⟨fun w a => by simp [Instr.fieldAt, Instr.sureAddr, fieldPlace, Tryd.runUnderlying204, Tryd.sizeOf9]⟩
instance : Cel Tryd.prog 205 1 := ⟨by kernel_rfl⟩
instance : Siz Tryd.prog 205 1 := ⟨Tryd.sizeOf205⟩
instance : Agg Tryd.prog 205 true := ⟨Tryd.isAgg205⟩
instance : Zer Tryd.prog 205 (.agg #[.string ⟨#[]⟩]) := ⟨Tryd.zeroValue205⟩
instance : Inf Tryd.prog 205 1 16 (.agg #[.string ⟨#[]⟩]) := ⟨inf_of (by kernel_rfl)⟩
instance : Plc Tryd.prog 205 [(0, 1)] := ⟨⟨_, Tryd.runUnderlying205, fun w => by simp [Tryd.sizeOf9]⟩⟩
instance : Fld Tryd.prog 205 0 0 := ⟨fun w a => by simp [Instr.fieldAt, Instr.sureAddr, fieldPlace, Tryd.runUnderlying205, Tryd.sizeOf9]⟩
instance : Cel Tryd.prog 206 1 := ⟨by kernel_rfl⟩
instance : Siz Tryd.prog 206 1 := ⟨Tryd.sizeOf206⟩
instance : Agg Tryd.prog 206 false := ⟨Tryd.isAgg206⟩
instance : Zer Tryd.prog 206 (.nilFunc) := ⟨Tryd.zeroValue206⟩
instance : Inf Tryd.prog 206 1 8 (.nilFunc) := ⟨inf_of (by kernel_rfl)⟩
instance : Und Tryd.prog 207 (.array 32 5) := ⟨Tryd.underlying207⟩
instance : Cel Tryd.prog 207 32 := ⟨by kernel_rfl⟩
instance : Siz Tryd.prog 207 32 := ⟨Tryd.sizeOf207⟩
instance : Agg Tryd.prog 207 true := ⟨Tryd.isAgg207⟩
instance : Zer Tryd.prog 207 (.agg #[.int .u8 0, .int .u8 0, .int .u8 0, .int .u8 0, .int .u8 0, .int .u8 0, .int .u8 0, .int .u8 0, .int .u8 0, .int .u8 0, .int .u8 0, .int .u8 0, .int .u8 0, .int .u8 0, .int .u8 0, .int .u8 0, .int .u8 0, .int .u8 0, .int .u8 0, .int .u8 0, .int .u8 0, .int .u8 0, .int .u8 0, .int .u8 0, .int .u8 0, .int .u8 0, .int .u8 0, .int .u8 0, .int .u8 0, .int .u8 0, .int .u8 0, .int .u8 0]) := ⟨Tryd.zeroValue207⟩
instance : Inf Tryd.prog 207 32 32 (.agg #[.int .u8 0, .int .u8 0, .int .u8 0, .int .u8 0, .int .u8 0, .int .u8 0, .int .u8 0, .int .u8 0, .int .u8 0, .int .u8 0, .int .u8 0, .int .u8 0, .int .u8 0, .int .u8 0, .int .u8 0, .int .u8 0, .int .u8 0, .int .u8 0, .int .u8 0, .int .u8 0, .int .u8 0, .int .u8 0, .int .u8 0, .int .u8 0, .int .u8 0, .int .u8 0, .int .u8 0, .int .u8 0, .int .u8 0, .int .u8 0, .int .u8 0, .int .u8 0]) := ⟨inf_of (by kernel_rfl)⟩
instance : Und Tryd.prog 208 (.array 64 5) := ⟨Tryd.underlying208⟩
instance : Cel Tryd.prog 208 64 := ⟨by kernel_rfl⟩
instance : Siz Tryd.prog 208 64 := ⟨Tryd.sizeOf208⟩
instance : Agg Tryd.prog 208 true := ⟨Tryd.isAgg208⟩
instance : Cel Tryd.prog 209 4 := ⟨by kernel_rfl⟩
instance : Siz Tryd.prog 209 4 := ⟨Tryd.sizeOf209⟩
instance : Agg Tryd.prog 209 true := ⟨Tryd.isAgg209⟩
instance : Zer Tryd.prog 209 (.agg #[.pointer none, .pointer none, .pointer none, .string ⟨#[]⟩]) := ⟨Tryd.zeroValue209⟩
instance : Inf Tryd.prog 209 4 40 (.agg #[.pointer none, .pointer none, .pointer none, .string ⟨#[]⟩]) := ⟨inf_of (by kernel_rfl)⟩
instance : Plc Tryd.prog 209 [(0, 1), (1, 1), (2, 1), (3, 1)] := ⟨⟨_, Tryd.runUnderlying209, fun w => by simp [Tryd.sizeOf17, Tryd.sizeOf9]⟩⟩
instance : Fld Tryd.prog 209 0 0 := ⟨fun w a => by simp [Instr.fieldAt, Instr.sureAddr, fieldPlace, Tryd.runUnderlying209, Tryd.sizeOf17]⟩
instance : Fld Tryd.prog 209 1 1 := ⟨fun w a => by simp [Instr.fieldAt, Instr.sureAddr, fieldPlace, Tryd.runUnderlying209, Tryd.sizeOf17]⟩
instance : Fld Tryd.prog 209 2 2 := ⟨fun w a => by simp [Instr.fieldAt, Instr.sureAddr, fieldPlace, Tryd.runUnderlying209, Tryd.sizeOf17]⟩
instance : Fld Tryd.prog 209 3 3 := ⟨fun w a => by simp [Instr.fieldAt, Instr.sureAddr, fieldPlace, Tryd.runUnderlying209, Tryd.sizeOf9]⟩
instance : Cel Tryd.prog 210 4 := ⟨by kernel_rfl⟩
instance : Siz Tryd.prog 210 4 := ⟨Tryd.sizeOf210⟩
instance : Agg Tryd.prog 210 true := ⟨Tryd.isAgg210⟩
instance : Zer Tryd.prog 210 (.agg #[.pointer none, .pointer none, .pointer none, .string ⟨#[]⟩]) := ⟨Tryd.zeroValue210⟩
instance : Inf Tryd.prog 210 4 40 (.agg #[.pointer none, .pointer none, .pointer none, .string ⟨#[]⟩]) := ⟨inf_of (by kernel_rfl)⟩
instance : Plc Tryd.prog 210 [(0, 1), (1, 1), (2, 1), (3, 1)] := ⟨⟨_, Tryd.runUnderlying210, fun w => by simp [Tryd.sizeOf17, Tryd.sizeOf9]⟩⟩
instance : Fld Tryd.prog 210 0 0 := ⟨fun w a => by simp [Instr.fieldAt, Instr.sureAddr, fieldPlace, Tryd.runUnderlying210, Tryd.sizeOf17]⟩
instance : Fld Tryd.prog 210 1 1 := ⟨fun w a => by simp [Instr.fieldAt, Instr.sureAddr, fieldPlace, Tryd.runUnderlying210, Tryd.sizeOf17]⟩
instance : Fld Tryd.prog 210 2 2 := ⟨fun w a => by simp [Instr.fieldAt, Instr.sureAddr, fieldPlace, Tryd.runUnderlying210, Tryd.sizeOf17]⟩
instance : Fld Tryd.prog 210 3 3 := ⟨fun w a => by simp [Instr.fieldAt, Instr.sureAddr, fieldPlace, Tryd.runUnderlying210, Tryd.sizeOf9]⟩
instance : Und Tryd.prog 211 (.array 0 16) := ⟨Tryd.underlying211⟩
instance : Cel Tryd.prog 211 0 := ⟨by kernel_rfl⟩
instance : Siz Tryd.prog 211 0 := ⟨Tryd.sizeOf211⟩
instance : Agg Tryd.prog 211 true := ⟨Tryd.isAgg211⟩
instance : Zer Tryd.prog 211 (.agg #[]) := ⟨Tryd.zeroValue211⟩
instance : Inf Tryd.prog 211 0 0 (.agg #[]) := ⟨inf_of (by kernel_rfl)⟩
instance : Cel Tryd.prog 212 0 := ⟨by kernel_rfl⟩
instance : Siz Tryd.prog 212 0 := ⟨Tryd.sizeOf212⟩
instance : Agg Tryd.prog 212 true := ⟨Tryd.isAgg212⟩
instance : Zer Tryd.prog 212 (.agg #[]) := ⟨Tryd.zeroValue212⟩
instance : Inf Tryd.prog 212 0 0 (.agg #[]) := ⟨inf_of (by kernel_rfl)⟩
instance : Plc Tryd.prog 212 [(0, 0)] := ⟨⟨_, Tryd.runUnderlying212, fun w => by simp [Tryd.sizeOf211]⟩⟩
instance : Cel Tryd.prog 213 0 := ⟨by kernel_rfl⟩
instance : Siz Tryd.prog 213 0 := ⟨Tryd.sizeOf213⟩
instance : Agg Tryd.prog 213 true := ⟨Tryd.isAgg213⟩
instance : Zer Tryd.prog 213 (.agg #[]) := ⟨Tryd.zeroValue213⟩
instance : Inf Tryd.prog 213 0 0 (.agg #[]) := ⟨inf_of (by kernel_rfl)⟩
instance : Plc Tryd.prog 213 [(0, 0)] := ⟨⟨_, Tryd.runUnderlying213, fun w => by simp [Tryd.sizeOf211]⟩⟩
instance : Und Tryd.prog 214 (.int .u8) := ⟨Tryd.underlying214⟩
instance : Cel Tryd.prog 214 1 := ⟨by kernel_rfl⟩
instance : Siz Tryd.prog 214 1 := ⟨Tryd.sizeOf214⟩
instance : Agg Tryd.prog 214 false := ⟨Tryd.isAgg214⟩
instance : Zer Tryd.prog 214 (.int .u8 0) := ⟨Tryd.zeroValue214⟩
instance : Inf Tryd.prog 214 1 1 (.int .u8 0) := ⟨inf_of (by kernel_rfl)⟩
instance : Und Tryd.prog 215 (.int .u8) := ⟨Tryd.underlying215⟩
instance : Cel Tryd.prog 215 1 := ⟨by kernel_rfl⟩
instance : Siz Tryd.prog 215 1 := ⟨Tryd.sizeOf215⟩
instance : Agg Tryd.prog 215 false := ⟨Tryd.isAgg215⟩
instance : Zer Tryd.prog 215 (.int .u8 0) := ⟨Tryd.zeroValue215⟩
instance : Inf Tryd.prog 215 1 1 (.int .u8 0) := ⟨inf_of (by kernel_rfl)⟩
instance : Cel Tryd.prog 216 1 := ⟨by kernel_rfl⟩
instance : Siz Tryd.prog 216 1 := ⟨Tryd.sizeOf216⟩
instance : Agg Tryd.prog 216 false := ⟨Tryd.isAgg216⟩
instance : Zer Tryd.prog 216 (.nilFunc) := ⟨Tryd.zeroValue216⟩
instance : Inf Tryd.prog 216 1 8 (.nilFunc) := ⟨inf_of (by kernel_rfl)⟩
instance : Und Tryd.prog 217 (.int .i32) := ⟨Tryd.underlying217⟩
instance : Cel Tryd.prog 217 1 := ⟨by kernel_rfl⟩
instance : Siz Tryd.prog 217 1 := ⟨Tryd.sizeOf217⟩
instance : Agg Tryd.prog 217 false := ⟨Tryd.isAgg217⟩
instance : Zer Tryd.prog 217 (.int .i32 0) := ⟨Tryd.zeroValue217⟩
instance : Inf Tryd.prog 217 1 4 (.int .i32 0) := ⟨inf_of (by kernel_rfl)⟩
instance : Und Tryd.prog 218 (.int .i32) := ⟨Tryd.underlying218⟩
instance : Cel Tryd.prog 218 1 := ⟨by kernel_rfl⟩
instance : Siz Tryd.prog 218 1 := ⟨Tryd.sizeOf218⟩
instance : Agg Tryd.prog 218 false := ⟨Tryd.isAgg218⟩
instance : Zer Tryd.prog 218 (.int .i32 0) := ⟨Tryd.zeroValue218⟩
instance : Inf Tryd.prog 218 1 4 (.int .i32 0) := ⟨inf_of (by kernel_rfl)⟩
instance : Cel Tryd.prog 219 11 := ⟨by kernel_rfl⟩
instance : Siz Tryd.prog 219 11 := ⟨Tryd.sizeOf219⟩
instance : Agg Tryd.prog 219 true := ⟨Tryd.isAgg219⟩
instance : Zer Tryd.prog 219 (.agg #[.int .u64 0, .int .u64 0, .int .u32 0, .int .u8 0, .int .u8 0, .int .u8 0, .int .u8 0, .nilFunc, .pointer none, .int .i32 0, .int .i32 0]) := ⟨Tryd.zeroValue219⟩
instance : Inf Tryd.prog 219 11 48 (.agg #[.int .u64 0, .int .u64 0, .int .u32 0, .int .u8 0, .int .u8 0, .int .u8 0, .int .u8 0, .nilFunc, .pointer none, .int .i32 0, .int .i32 0]) := ⟨inf_of (by kernel_rfl)⟩
instance : Plc Tryd.prog 219 [(0, 1), (1, 1), (2, 1), (3, 1), (4, 1), (5, 1), (6, 1), (7, 1), (8, 1), (9, 1), (10, 1)] := ⟨⟨_, Tryd.runUnderlying219, fun w => by simp [Tryd.sizeOf12, Tryd.sizeOf137, Tryd.sizeOf166, Tryd.sizeOf214, Tryd.sizeOf215, Tryd.sizeOf216, Tryd.sizeOf217, Tryd.sizeOf218, Tryd.sizeOf5]⟩⟩
instance : Fld Tryd.prog 219 0 0 := ⟨fun w a => by simp [Instr.fieldAt, Instr.sureAddr, fieldPlace, Tryd.runUnderlying219, Tryd.sizeOf12]⟩
instance : Fld Tryd.prog 219 1 1 := ⟨fun w a => by simp [Instr.fieldAt, Instr.sureAddr, fieldPlace, Tryd.runUnderlying219, Tryd.sizeOf12]⟩
instance : Fld Tryd.prog 219 2 2 := ⟨fun w a => by simp [Instr.fieldAt, Instr.sureAddr, fieldPlace, Tryd.runUnderlying219, Tryd.sizeOf166]⟩
instance : Fld Tryd.prog 219 3 3 := ⟨fun w a => by simp [Instr.fieldAt, Instr.sureAddr, fieldPlace, Tryd.runUnderlying219, Tryd.sizeOf214]⟩
instance : Fld Tryd.prog 219 4 4 := ⟨fun w a => by simp [Instr.fieldAt, Instr.sureAddr, fieldPlace, Tryd.runUnderlying219, Tryd.sizeOf5]⟩
instance : Fld Tryd.prog 219 5 5 := ⟨fun w a => by simp [Instr.fieldAt, Instr.sureAddr, fieldPlace, Tryd.runUnderlying219, Tryd.sizeOf5]⟩
instance : Fld Tryd.prog 219 6 6 := ⟨fun w a => by simp [Instr.fieldAt, Instr.sureAddr, fieldPlace, Tryd.runUnderlying219, Tryd.sizeOf215]⟩
instance : Fld Tryd.prog 219 7 7 := ⟨fun w a => by simp [Instr.fieldAt, Instr.sureAddr, fieldPlace, Tryd.runUnderlying219, Tryd.sizeOf216]⟩
instance : Fld Tryd.prog 219 8 8 := ⟨fun w a => by simp [Instr.fieldAt, Instr.sureAddr, fieldPlace, Tryd.runUnderlying219, Tryd.sizeOf137]⟩
instance : Fld Tryd.prog 219 9 9 := ⟨fun w a => by simp [Instr.fieldAt, Instr.sureAddr, fieldPlace, Tryd.runUnderlying219, Tryd.sizeOf217]⟩
instance : Fld Tryd.prog 219 10 10 := ⟨fun w a => by simp [Instr.fieldAt, Instr.sureAddr, fieldPlace, Tryd.runUnderlying219, Tryd.sizeOf218]⟩
instance : Cel Tryd.prog 220 11 := ⟨by kernel_rfl⟩
instance : Siz Tryd.prog 220 11 := ⟨Tryd.sizeOf220⟩
instance : Agg Tryd.prog 220 true := ⟨Tryd.isAgg220⟩
instance : Zer Tryd.prog 220 (.agg #[.int .u64 0, .int .u64 0, .int .u32 0, .int .u8 0, .int .u8 0, .int .u8 0, .int .u8 0, .nilFunc, .pointer none, .int .i32 0, .int .i32 0]) := ⟨Tryd.zeroValue220⟩
instance : Inf Tryd.prog 220 11 48 (.agg #[.int .u64 0, .int .u64 0, .int .u32 0, .int .u8 0, .int .u8 0, .int .u8 0, .int .u8 0, .nilFunc, .pointer none, .int .i32 0, .int .i32 0]) := ⟨inf_of (by kernel_rfl)⟩
instance : Plc Tryd.prog 220 [(0, 1), (1, 1), (2, 1), (3, 1), (4, 1), (5, 1), (6, 1), (7, 1), (8, 1), (9, 1), (10, 1)] := ⟨⟨_, Tryd.runUnderlying220, fun w => by simp [Tryd.sizeOf12, Tryd.sizeOf137, Tryd.sizeOf166, Tryd.sizeOf214, Tryd.sizeOf215, Tryd.sizeOf216, Tryd.sizeOf217, Tryd.sizeOf218, Tryd.sizeOf5]⟩⟩
instance : Fld Tryd.prog 220 0 0 := ⟨fun w a => by simp [Instr.fieldAt, Instr.sureAddr, fieldPlace, Tryd.runUnderlying220, Tryd.sizeOf12]⟩
instance : Fld Tryd.prog 220 1 1 := ⟨fun w a => by simp [Instr.fieldAt, Instr.sureAddr, fieldPlace, Tryd.runUnderlying220, Tryd.sizeOf12]⟩
instance : Fld Tryd.prog 220 2 2 := ⟨fun w a => by simp [Instr.fieldAt, Instr.sureAddr, fieldPlace, Tryd.runUnderlying220, Tryd.sizeOf166]⟩
instance : Fld Tryd.prog 220 3 3 := ⟨fun w a => by simp [Instr.fieldAt, Instr.sureAddr, fieldPlace, Tryd.runUnderlying220, Tryd.sizeOf214]⟩
instance : Fld Tryd.prog 220 4 4 := ⟨fun w a => by simp [Instr.fieldAt, Instr.sureAddr, fieldPlace, Tryd.runUnderlying220, Tryd.sizeOf5]⟩
instance : Fld Tryd.prog 220 5 5 := ⟨fun w a => by simp [Instr.fieldAt, Instr.sureAddr, fieldPlace, Tryd.runUnderlying220, Tryd.sizeOf5]⟩
instance : Fld Tryd.prog 220 6 6 := ⟨fun w a => by simp [Instr.fieldAt, Instr.sureAddr, fieldPlace, Tryd.runUnderlying220, Tryd.sizeOf215]⟩
instance : Fld Tryd.prog 220 7 7 := ⟨fun w a => by simp [Instr.fieldAt, Instr.sureAddr, fieldPlace, Tryd.runUnderlying220, Tryd.sizeOf216]⟩
instance : Fld Tryd.prog 220 8 8 := ⟨fun w a => by simp [Instr.fieldAt, Instr.sureAddr, fieldPlace, Tryd.runUnderlying220, Tryd.sizeOf137]⟩
instance : Fld Tryd.prog 220 9 9 := ⟨fun w a => by simp [Instr.fieldAt, Instr.sureAddr, fieldPlace, Tryd.runUnderlying220, Tryd.sizeOf217]⟩
instance : Fld Tryd.prog 220 10 10 := ⟨fun w a => by simp [Instr.fieldAt, Instr.sureAddr, fieldPlace, Tryd.runUnderlying220, Tryd.sizeOf218]⟩
instance : Mix Tryd.prog := ⟨by decide⟩
end Go.Proofs
