/- The facts on a seat's types, as instances of the abstract logic's classes. No condition. -/
import Derived.Test.YtfnmipagllofiaaDoorOpen
import Derived.Test.YtfnmipagllofiaaDoorOps17
import Derived.Test.YtfnmipagllofiaaDoorProg
namespace Go.Proofs
open Go.AL
instance : Cel Tryd.prog 0 1 := ⟨by kernel_rfl⟩
instance : Siz Tryd.prog 0 1 := ⟨Tryd.sizeOf0⟩
instance : Cel Tryd.prog 1 1 := ⟨by kernel_rfl⟩
instance : Siz Tryd.prog 1 1 := ⟨Tryd.sizeOf1⟩
instance : Agg Tryd.prog 1 false := ⟨Tryd.isAgg1⟩
instance : Zer Tryd.prog 1 (.nilFunc) := ⟨Tryd.zeroValue1⟩
instance : Inf Tryd.prog 1 1 8 (.nilFunc) := ⟨inf_of (by kernel_rfl)⟩
instance : Und Tryd.prog 2 (.int .i64) := ⟨Tryd.underlying2⟩
instance : Cel Tryd.prog 2 1 := ⟨by kernel_rfl⟩
instance : Siz Tryd.prog 2 1 := ⟨Tryd.sizeOf2⟩
instance : Agg Tryd.prog 2 false := ⟨Tryd.isAgg2⟩
instance : Zer Tryd.prog 2 (.int .i64 0) := ⟨Tryd.zeroValue2⟩
instance : Inf Tryd.prog 2 1 8 (.int .i64 0) := ⟨inf_of (by kernel_rfl)⟩
instance : Und Tryd.prog 3 (.int .i64) := ⟨Tryd.underlying3⟩
instance : Cel Tryd.prog 3 1 := ⟨by kernel_rfl⟩
instance : Siz Tryd.prog 3 1 := ⟨Tryd.sizeOf3⟩
instance : Agg Tryd.prog 3 false := ⟨Tryd.isAgg3⟩
instance : Zer Tryd.prog 3 (.int .i64 0) := ⟨Tryd.zeroValue3⟩
instance : Inf Tryd.prog 3 1 8 (.int .i64 0) := ⟨inf_of (by kernel_rfl)⟩
instance : Und Tryd.prog 4 .bool := ⟨Tryd.underlying4⟩
instance : Cel Tryd.prog 4 1 := ⟨by kernel_rfl⟩
instance : Siz Tryd.prog 4 1 := ⟨Tryd.sizeOf4⟩
instance : Agg Tryd.prog 4 false := ⟨Tryd.isAgg4⟩
instance : Zer Tryd.prog 4 (.bool false) := ⟨Tryd.zeroValue4⟩
instance : Inf Tryd.prog 4 1 1 (.bool false) := ⟨inf_of (by kernel_rfl)⟩
instance : Und Tryd.prog 5 (.int .u8) := ⟨Tryd.underlying5⟩
instance : Cel Tryd.prog 5 1 := ⟨by kernel_rfl⟩
instance : Siz Tryd.prog 5 1 := ⟨Tryd.sizeOf5⟩
instance : Agg Tryd.prog 5 false := ⟨Tryd.isAgg5⟩
instance : Zer Tryd.prog 5 (.int .u8 0) := ⟨Tryd.zeroValue5⟩
instance : Inf Tryd.prog 5 1 1 (.int .u8 0) := ⟨inf_of (by kernel_rfl)⟩
instance : Und Tryd.prog 6 (.int .u8) := ⟨Tryd.underlying6⟩
instance : Cel Tryd.prog 6 1 := ⟨by kernel_rfl⟩
instance : Siz Tryd.prog 6 1 := ⟨Tryd.sizeOf6⟩
instance : Agg Tryd.prog 6 false := ⟨Tryd.isAgg6⟩
instance : Zer Tryd.prog 6 (.int .u8 0) := ⟨Tryd.zeroValue6⟩
instance : Inf Tryd.prog 6 1 1 (.int .u8 0) := ⟨inf_of (by kernel_rfl)⟩
instance : Cel Tryd.prog 7 4 := ⟨by kernel_rfl⟩
instance : Siz Tryd.prog 7 4 := ⟨Tryd.sizeOf7⟩
instance : Agg Tryd.prog 7 true := ⟨Tryd.isAgg7⟩
instance : Zer Tryd.prog 7 (.agg #[.int .i64 0, .int .i64 0, .bool false, .int .u8 0]) := ⟨Tryd.zeroValue7⟩
instance : Inf Tryd.prog 7 4 24 (.agg #[.int .i64 0, .int .i64 0, .bool false, .int .u8 0]) := ⟨inf_of (by kernel_rfl)⟩
instance : Plc Tryd.prog 7 [(0, 1), (1, 1), (2, 1), (3, 1)] := ⟨⟨_, Tryd.runUnderlying7, fun w => by simp [Tryd.sizeOf2, Tryd.sizeOf3, Tryd.sizeOf4, Tryd.sizeOf6]⟩⟩
instance : Fld Tryd.prog 7 0 0 := ⟨fun w a => by simp [Instr.fieldAt, Instr.sureAddr, fieldPlace, Tryd.runUnderlying7, Tryd.sizeOf2]⟩
instance : Fld Tryd.prog 7 1 1 := ⟨fun w a => by simp [Instr.fieldAt, Instr.sureAddr, fieldPlace, Tryd.runUnderlying7, Tryd.sizeOf3]⟩
instance : Fld Tryd.prog 7 2 2 := ⟨fun w a => by simp [Instr.fieldAt, Instr.sureAddr, fieldPlace, Tryd.runUnderlying7, Tryd.sizeOf4]⟩
instance : Fld Tryd.prog 7 3 3 := ⟨fun w a => by simp [Instr.fieldAt, Instr.sureAddr, fieldPlace, Tryd.runUnderlying7, Tryd.sizeOf6]⟩
instance : Cel Tryd.prog 8 4 := ⟨by kernel_rfl⟩
instance : Siz Tryd.prog 8 4 := ⟨Tryd.sizeOf8⟩
instance : Agg Tryd.prog 8 true := ⟨Tryd.isAgg8⟩
instance : Zer Tryd.prog 8 (.agg #[.int .i64 0, .int .i64 0, .bool false, .int .u8 0]) := ⟨Tryd.zeroValue8⟩
instance : Inf Tryd.prog 8 4 24 (.agg #[.int .i64 0, .int .i64 0, .bool false, .int .u8 0]) := ⟨inf_of (by kernel_rfl)⟩
instance : Plc Tryd.prog 8 [(0, 1), (1, 1), (2, 1), (3, 1)] := ⟨⟨_, Tryd.runUnderlying8, fun w => by simp [Tryd.sizeOf2, Tryd.sizeOf3, Tryd.sizeOf4, Tryd.sizeOf6]⟩⟩
instance : Fld Tryd.prog 8 0 0 := ⟨fun w a => by simp [Instr.fieldAt, Instr.sureAddr, fieldPlace, Tryd.runUnderlying8, Tryd.sizeOf2]⟩
instance : Fld Tryd.prog 8 1 1 := ⟨fun w a => by simp [Instr.fieldAt, Instr.sureAddr, fieldPlace, Tryd.runUnderlying8, Tryd.sizeOf3]⟩
instance : Fld Tryd.prog 8 2 2 := ⟨fun w a => by simp [Instr.fieldAt, Instr.sureAddr, fieldPlace, Tryd.runUnderlying8, Tryd.sizeOf4]⟩
instance : Fld Tryd.prog 8 3 3 := ⟨fun w a => by simp [Instr.fieldAt, Instr.sureAddr, fieldPlace, Tryd.runUnderlying8, Tryd.sizeOf6]⟩
instance : Und Tryd.prog 9 .string := ⟨Tryd.underlying9⟩
instance : Cel Tryd.prog 9 1 := ⟨by kernel_rfl⟩
instance : Siz Tryd.prog 9 1 := ⟨Tryd.sizeOf9⟩
instance : Agg Tryd.prog 9 false := ⟨Tryd.isAgg9⟩
instance : Zer Tryd.prog 9 (.string ⟨#[]⟩) := ⟨Tryd.zeroValue9⟩
instance : Inf Tryd.prog 9 1 16 (.string ⟨#[]⟩) := ⟨inf_of (by kernel_rfl)⟩
instance : Und Tryd.prog 10 .string := ⟨Tryd.underlying10⟩
instance : Cel Tryd.prog 10 1 := ⟨by kernel_rfl⟩
instance : Siz Tryd.prog 10 1 := ⟨Tryd.sizeOf10⟩
instance : Agg Tryd.prog 10 false := ⟨Tryd.isAgg10⟩
instance : Zer Tryd.prog 10 (.string ⟨#[]⟩) := ⟨Tryd.zeroValue10⟩
instance : Inf Tryd.prog 10 1 16 (.string ⟨#[]⟩) := ⟨inf_of (by kernel_rfl)⟩
instance : Und Tryd.prog 11 .string := ⟨Tryd.underlying11⟩
instance : Cel Tryd.prog 11 1 := ⟨by kernel_rfl⟩
instance : Siz Tryd.prog 11 1 := ⟨Tryd.sizeOf11⟩
instance : Agg Tryd.prog 11 false := ⟨Tryd.isAgg11⟩
instance : Zer Tryd.prog 11 (.string ⟨#[]⟩) := ⟨Tryd.zeroValue11⟩
instance : Inf Tryd.prog 11 1 16 (.string ⟨#[]⟩) := ⟨inf_of (by kernel_rfl)⟩
instance : Und Tryd.prog 12 (.int .u64) := ⟨Tryd.underlying12⟩
instance : Cel Tryd.prog 12 1 := ⟨by kernel_rfl⟩
instance : Siz Tryd.prog 12 1 := ⟨Tryd.sizeOf12⟩
instance : Agg Tryd.prog 12 false := ⟨Tryd.isAgg12⟩
instance : Zer Tryd.prog 12 (.int .u64 0) := ⟨Tryd.zeroValue12⟩
instance : Inf Tryd.prog 12 1 8 (.int .u64 0) := ⟨inf_of (by kernel_rfl)⟩
instance : Cel Tryd.prog 13 2 := ⟨by kernel_rfl⟩
instance : Siz Tryd.prog 13 2 := ⟨Tryd.sizeOf13⟩
instance : Agg Tryd.prog 13 true := ⟨Tryd.isAgg13⟩
instance : Zer Tryd.prog 13 (.agg #[.string ⟨#[]⟩, .int .u64 0]) := ⟨Tryd.zeroValue13⟩
instance : Inf Tryd.prog 13 2 24 (.agg #[.string ⟨#[]⟩, .int .u64 0]) := ⟨inf_of (by kernel_rfl)⟩
instance : Plc Tryd.prog 13 [(0, 1), (1, 1)] := ⟨⟨_, Tryd.runUnderlying13, fun w => by simp [Tryd.sizeOf12, Tryd.sizeOf9]⟩⟩
instance : Fld Tryd.prog 13 0 0 := ⟨fun w a => by simp [Instr.fieldAt, Instr.sureAddr, fieldPlace, Tryd.runUnderlying13, Tryd.sizeOf9]⟩
instance : Fld Tryd.prog 13 1 1 := ⟨fun w a => by simp [Instr.fieldAt, Instr.sureAddr, fieldPlace, Tryd.runUnderlying13, Tryd.sizeOf12]⟩
instance : Cel Tryd.prog 14 2 := ⟨by kernel_rfl⟩
instance : Siz Tryd.prog 14 2 := ⟨Tryd.sizeOf14⟩
instance : Agg Tryd.prog 14 true := ⟨Tryd.isAgg14⟩
instance : Zer Tryd.prog 14 (.agg #[.string ⟨#[]⟩, .int .u64 0]) := ⟨Tryd.zeroValue14⟩
instance : Inf Tryd.prog 14 2 24 (.agg #[.string ⟨#[]⟩, .int .u64 0]) := ⟨inf_of (by kernel_rfl)⟩
instance : Plc Tryd.prog 14 [(0, 1), (1, 1)] := ⟨⟨_, Tryd.runUnderlying14, fun w => by simp [Tryd.sizeOf12, Tryd.sizeOf9]⟩⟩
instance : Fld Tryd.prog 14 0 0 := ⟨fun w a => by simp [Instr.fieldAt, Instr.sureAddr, fieldPlace, Tryd.runUnderlying14, Tryd.sizeOf9]⟩
instance : Fld Tryd.prog 14 1 1 := ⟨fun w a => by simp [Instr.fieldAt, Instr.sureAddr, fieldPlace, Tryd.runUnderlying14, Tryd.sizeOf12]⟩
instance : Und Tryd.prog 15 (.pointer 144) := ⟨Tryd.underlying15⟩
instance : Cel Tryd.prog 15 1 := ⟨by kernel_rfl⟩
instance : Siz Tryd.prog 15 1 := ⟨Tryd.sizeOf15⟩
instance : Agg Tryd.prog 15 false := ⟨Tryd.isAgg15⟩
instance : Zer Tryd.prog 15 (.pointer none) := ⟨Tryd.zeroValue15⟩
instance : Inf Tryd.prog 15 1 8 (.pointer none) := ⟨inf_of (by kernel_rfl)⟩
instance : Und Tryd.prog 16 (.pointer 147) := ⟨Tryd.underlying16⟩
instance : Cel Tryd.prog 16 1 := ⟨by kernel_rfl⟩
instance : Siz Tryd.prog 16 1 := ⟨Tryd.sizeOf16⟩
instance : Agg Tryd.prog 16 false := ⟨Tryd.isAgg16⟩
instance : Zer Tryd.prog 16 (.pointer none) := ⟨Tryd.zeroValue16⟩
instance : Inf Tryd.prog 16 1 8 (.pointer none) := ⟨inf_of (by kernel_rfl)⟩
instance : Und Tryd.prog 17 (.pointer 155) := ⟨Tryd.underlying17⟩
instance : Cel Tryd.prog 17 1 := ⟨by kernel_rfl⟩
instance : Siz Tryd.prog 17 1 := ⟨Tryd.sizeOf17⟩
instance : Agg Tryd.prog 17 false := ⟨Tryd.isAgg17⟩
instance : Zer Tryd.prog 17 (.pointer none) := ⟨Tryd.zeroValue17⟩
instance : Inf Tryd.prog 17 1 8 (.pointer none) := ⟨inf_of (by kernel_rfl)⟩
instance : Cel Tryd.prog 18 1 := ⟨by kernel_rfl⟩
instance : Siz Tryd.prog 18 1 := ⟨Tryd.sizeOf18⟩
instance : Agg Tryd.prog 18 true := ⟨Tryd.isAgg18⟩
instance : Zer Tryd.prog 18 (.agg #[.pointer none]) := ⟨Tryd.zeroValue18⟩
instance : Inf Tryd.prog 18 1 8 (.agg #[.pointer none]) := ⟨inf_of (by kernel_rfl)⟩
instance : Plc Tryd.prog 18 [(0, 1)] := ⟨⟨_, Tryd.runUnderlying18, fun w => by simp [Tryd.sizeOf17]⟩⟩
instance : Fld Tryd.prog 18 0 0 := ⟨fun w a => by simp [Instr.fieldAt, Instr.sureAddr, fieldPlace, Tryd.runUnderlying18, Tryd.sizeOf17]⟩
instance : Cel Tryd.prog 19 1 := ⟨by kernel_rfl⟩
instance : Siz Tryd.prog 19 1 := ⟨Tryd.sizeOf19⟩
instance : Agg Tryd.prog 19 true := ⟨Tryd.isAgg19⟩
instance : Zer Tryd.prog 19 (.agg #[.pointer none]) := ⟨Tryd.zeroValue19⟩
instance : Inf Tryd.prog 19 1 8 (.agg #[.pointer none]) := ⟨inf_of (by kernel_rfl)⟩
instance : Plc Tryd.prog 19 [(0, 1)] := ⟨⟨_, Tryd.runUnderlying19, fun w => by simp [Tryd.sizeOf17]⟩⟩
instance : Fld Tryd.prog 19 0 0 := ⟨fun w a => by simp [Instr.fieldAt, Instr.sureAddr, fieldPlace, Tryd.runUnderlying19, Tryd.sizeOf17]⟩
instance : Ifc Tryd.prog 20 := ⟨⟨_, Tryd.underlying20⟩⟩
instance : Cel Tryd.prog 20 1 := ⟨by kernel_rfl⟩
instance : Siz Tryd.prog 20 1 := ⟨Tryd.sizeOf20⟩
instance : Agg Tryd.prog 20 false := ⟨Tryd.isAgg20⟩
instance : Zer Tryd.prog 20 (.nilIface) := ⟨Tryd.zeroValue20⟩
instance : Inf Tryd.prog 20 1 16 (.nilIface) := ⟨inf_of (by kernel_rfl)⟩
instance : Und Tryd.prog 21 (.int .i32) := ⟨Tryd.underlying21⟩
instance : Cel Tryd.prog 21 1 := ⟨by kernel_rfl⟩
instance : Siz Tryd.prog 21 1 := ⟨Tryd.sizeOf21⟩
instance : Agg Tryd.prog 21 false := ⟨Tryd.isAgg21⟩
instance : Zer Tryd.prog 21 (.int .i32 0) := ⟨Tryd.zeroValue21⟩
instance : Inf Tryd.prog 21 1 4 (.int .i32 0) := ⟨inf_of (by kernel_rfl)⟩
instance : Und Tryd.prog 22 (.slice 38) := ⟨Tryd.underlying22⟩
instance : Cel Tryd.prog 22 1 := ⟨by kernel_rfl⟩
instance : Siz Tryd.prog 22 1 := ⟨Tryd.sizeOf22⟩
instance : Agg Tryd.prog 22 false := ⟨Tryd.isAgg22⟩
instance : Zer Tryd.prog 22 (.slice none 0 0) := ⟨Tryd.zeroValue22⟩
instance : Inf Tryd.prog 22 1 24 (.slice none 0 0) := ⟨inf_of (by kernel_rfl)⟩
instance : Und Tryd.prog 23 (.int .i64) := ⟨Tryd.underlying23⟩
instance : Cel Tryd.prog 23 1 := ⟨by kernel_rfl⟩
instance : Siz Tryd.prog 23 1 := ⟨Tryd.sizeOf23⟩
instance : Agg Tryd.prog 23 false := ⟨Tryd.isAgg23⟩
instance : Zer Tryd.prog 23 (.int .i64 0) := ⟨Tryd.zeroValue23⟩
instance : Inf Tryd.prog 23 1 8 (.int .i64 0) := ⟨inf_of (by kernel_rfl)⟩
instance : Cel Tryd.prog 24 1 := ⟨by kernel_rfl⟩
instance : Siz Tryd.prog 24 1 := ⟨Tryd.sizeOf24⟩
instance : Cel Tryd.prog 25 1 := ⟨by kernel_rfl⟩
instance : Siz Tryd.prog 25 1 := ⟨Tryd.sizeOf25⟩
instance : Agg Tryd.prog 25 false := ⟨Tryd.isAgg25⟩
instance : Zer Tryd.prog 25 (.nilFunc) := ⟨Tryd.zeroValue25⟩
instance : Inf Tryd.prog 25 1 8 (.nilFunc) := ⟨inf_of (by kernel_rfl)⟩
instance : Cel Tryd.prog 26 1 := ⟨by kernel_rfl⟩
instance : Siz Tryd.prog 26 1 := ⟨Tryd.sizeOf26⟩
instance : Cel Tryd.prog 27 1 := ⟨by kernel_rfl⟩
instance : Siz Tryd.prog 27 1 := ⟨Tryd.sizeOf27⟩
instance : Agg Tryd.prog 27 false := ⟨Tryd.isAgg27⟩
instance : Zer Tryd.prog 27 (.nilFunc) := ⟨Tryd.zeroValue27⟩
instance : Inf Tryd.prog 27 1 8 (.nilFunc) := ⟨inf_of (by kernel_rfl)⟩
instance : Cel Tryd.prog 28 1 := ⟨by kernel_rfl⟩
instance : Siz Tryd.prog 28 1 := ⟨Tryd.sizeOf28⟩
instance : Cel Tryd.prog 29 1 := ⟨by kernel_rfl⟩
instance : Siz Tryd.prog 29 1 := ⟨Tryd.sizeOf29⟩
instance : Agg Tryd.prog 29 false := ⟨Tryd.isAgg29⟩
instance : Zer Tryd.prog 29 (.nilFunc) := ⟨Tryd.zeroValue29⟩
instance : Inf Tryd.prog 29 1 8 (.nilFunc) := ⟨inf_of (by kernel_rfl)⟩
instance : Cel Tryd.prog 30 1 := ⟨by kernel_rfl⟩
instance : Siz Tryd.prog 30 1 := ⟨Tryd.sizeOf30⟩
instance : Cel Tryd.prog 31 1 := ⟨by kernel_rfl⟩
instance : Siz Tryd.prog 31 1 := ⟨Tryd.sizeOf31⟩
instance : Agg Tryd.prog 31 false := ⟨Tryd.isAgg31⟩
instance : Zer Tryd.prog 31 (.nilFunc) := ⟨Tryd.zeroValue31⟩
instance : Inf Tryd.prog 31 1 8 (.nilFunc) := ⟨inf_of (by kernel_rfl)⟩
instance : Cel Tryd.prog 32 1 := ⟨by kernel_rfl⟩
instance : Siz Tryd.prog 32 1 := ⟨Tryd.sizeOf32⟩
instance : Agg Tryd.prog 32 false := ⟨Tryd.isAgg32⟩
instance : Zer Tryd.prog 32 (.nilFunc) := ⟨Tryd.zeroValue32⟩
instance : Inf Tryd.prog 32 1 8 (.nilFunc) := ⟨inf_of (by kernel_rfl)⟩
instance : Cel Tryd.prog 33 1 := ⟨by kernel_rfl⟩
instance : Siz Tryd.prog 33 1 := ⟨Tryd.sizeOf33⟩
instance : Agg Tryd.prog 33 false := ⟨Tryd.isAgg33⟩
instance : Zer Tryd.prog 33 (.nilFunc) := ⟨Tryd.zeroValue33⟩
instance : Inf Tryd.prog 33 1 8 (.nilFunc) := ⟨inf_of (by kernel_rfl)⟩
instance : Cel Tryd.prog 34 1 := ⟨by kernel_rfl⟩
instance : Siz Tryd.prog 34 1 := ⟨Tryd.sizeOf34⟩
instance : Agg Tryd.prog 34 false := ⟨Tryd.isAgg34⟩
instance : Zer Tryd.prog 34 (.nilFunc) := ⟨Tryd.zeroValue34⟩
instance : Inf Tryd.prog 34 1 8 (.nilFunc) := ⟨inf_of (by kernel_rfl)⟩
instance : Cel Tryd.prog 35 1 := ⟨by kernel_rfl⟩
instance : Siz Tryd.prog 35 1 := ⟨Tryd.sizeOf35⟩
instance : Agg Tryd.prog 35 false := ⟨Tryd.isAgg35⟩
instance : Zer Tryd.prog 35 (.nilFunc) := ⟨Tryd.zeroValue35⟩
instance : Inf Tryd.prog 35 1 8 (.nilFunc) := ⟨inf_of (by kernel_rfl)⟩
instance : Und Tryd.prog 36 (.slice 9) := ⟨Tryd.underlying36⟩
instance : Cel Tryd.prog 36 1 := ⟨by kernel_rfl⟩
instance : Siz Tryd.prog 36 1 := ⟨Tryd.sizeOf36⟩
instance : Agg Tryd.prog 36 false := ⟨Tryd.isAgg36⟩
instance : Zer Tryd.prog 36 (.slice none 0 0) := ⟨Tryd.zeroValue36⟩
instance : Inf Tryd.prog 36 1 24 (.slice none 0 0) := ⟨inf_of (by kernel_rfl)⟩
instance : Cel Tryd.prog 37 2 := ⟨by kernel_rfl⟩
instance : Siz Tryd.prog 37 2 := ⟨Tryd.sizeOf37⟩
instance : Agg Tryd.prog 37 true := ⟨Tryd.isAgg37⟩
instance : Zer Tryd.prog 37 (.agg #[.int .i64 0, .int .i64 0]) := ⟨Tryd.zeroValue37⟩
instance : Inf Tryd.prog 37 2 16 (.agg #[.int .i64 0, .int .i64 0]) := ⟨inf_of (by kernel_rfl)⟩
instance : Plc Tryd.prog 37 [(0, 1), (1, 1)] := ⟨⟨_, Tryd.runUnderlying37, fun w => by simp [Tryd.sizeOf2]⟩⟩
instance : Fld Tryd.prog 37 0 0 := ⟨fun w a => by simp [Instr.fieldAt, Instr.sureAddr, fieldPlace, Tryd.runUnderlying37, Tryd.sizeOf2]⟩
instance : Fld Tryd.prog 37 1 1 := ⟨fun w a => by simp [Instr.fieldAt, Instr.sureAddr, fieldPlace, Tryd.runUnderlying37, Tryd.sizeOf2]⟩
instance : Cel Tryd.prog 38 2 := ⟨by kernel_rfl⟩
instance : Siz Tryd.prog 38 2 := ⟨Tryd.sizeOf38⟩
instance : Agg Tryd.prog 38 true := ⟨Tryd.isAgg38⟩
instance : Zer Tryd.prog 38 (.agg #[.int .i64 0, .int .i64 0]) := ⟨Tryd.zeroValue38⟩
instance : Inf Tryd.prog 38 2 16 (.agg #[.int .i64 0, .int .i64 0]) := ⟨inf_of (by kernel_rfl)⟩
instance : Plc Tryd.prog 38 [(0, 1), (1, 1)] := ⟨⟨_, Tryd.runUnderlying38, fun w => by simp [Tryd.sizeOf2]⟩⟩
instance : Fld Tryd.prog 38 0 0 := ⟨fun w a => by simp [Instr.fieldAt, Instr.sureAddr, fieldPlace, Tryd.runUnderlying38, Tryd.sizeOf2]⟩
instance : Fld Tryd.prog 38 1 1 := ⟨fun w a => by simp [Instr.fieldAt, Instr.sureAddr, fieldPlace, Tryd.runUnderlying38, Tryd.sizeOf2]⟩
instance : Cel Tryd.prog 39 1 := ⟨by kernel_rfl⟩
instance : Siz Tryd.prog 39 1 := ⟨Tryd.sizeOf39⟩
instance : Agg Tryd.prog 39 false := ⟨Tryd.isAgg39⟩
instance : Zer Tryd.prog 39 (.nilFunc) := ⟨Tryd.zeroValue39⟩
instance : Inf Tryd.prog 39 1 8 (.nilFunc) := ⟨inf_of (by kernel_rfl)⟩
instance : Cel Tryd.prog 40 1 := ⟨by kernel_rfl⟩
instance : Siz Tryd.prog 40 1 := ⟨Tryd.sizeOf40⟩
instance : Agg Tryd.prog 40 false := ⟨Tryd.isAgg40⟩
instance : Zer Tryd.prog 40 (.nilFunc) := ⟨Tryd.zeroValue40⟩
instance : Inf Tryd.prog 40 1 8 (.nilFunc) := ⟨inf_of (by kernel_rfl)⟩
instance : Cel Tryd.prog 41 1 := ⟨by kernel_rfl⟩
instance : Siz Tryd.prog 41 1 := ⟨Tryd.sizeOf41⟩
instance : Agg Tryd.prog 41 false := ⟨Tryd.isAgg41⟩
instance : Zer Tryd.prog 41 (.nilFunc) := ⟨Tryd.zeroValue41⟩
instance : Inf Tryd.prog 41 1 8 (.nilFunc) := ⟨inf_of (by kernel_rfl)⟩
instance : Cel Tryd.prog 42 1 := ⟨by kernel_rfl⟩
instance : Siz Tryd.prog 42 1 := ⟨Tryd.sizeOf42⟩
instance : Cel Tryd.prog 43 1 := ⟨by kernel_rfl⟩
instance : Siz Tryd.prog 43 1 := ⟨Tryd.sizeOf43⟩
instance : Agg Tryd.prog 43 false := ⟨Tryd.isAgg43⟩
instance : Zer Tryd.prog 43 (.nilFunc) := ⟨Tryd.zeroValue43⟩
instance : Inf Tryd.prog 43 1 8 (.nilFunc) := ⟨inf_of (by kernel_rfl)⟩
instance : Cel Tryd.prog 44 1 := ⟨by kernel_rfl⟩
instance : Siz Tryd.prog 44 1 := ⟨Tryd.sizeOf44⟩
instance : Cel Tryd.prog 45 1 := ⟨by kernel_rfl⟩
instance : Siz Tryd.prog 45 1 := ⟨Tryd.sizeOf45⟩
instance : Agg Tryd.prog 45 false := ⟨Tryd.isAgg45⟩
instance : Zer Tryd.prog 45 (.nilFunc) := ⟨Tryd.zeroValue45⟩
instance : Inf Tryd.prog 45 1 8 (.nilFunc) := ⟨inf_of (by kernel_rfl)⟩
instance : Cel Tryd.prog 46 1 := ⟨by kernel_rfl⟩
instance : Siz Tryd.prog 46 1 := ⟨Tryd.sizeOf46⟩
instance : Cel Tryd.prog 47 1 := ⟨by kernel_rfl⟩
instance : Siz Tryd.prog 47 1 := ⟨Tryd.sizeOf47⟩
instance : Agg Tryd.prog 47 false := ⟨Tryd.isAgg47⟩
instance : Zer Tryd.prog 47 (.nilFunc) := ⟨Tryd.zeroValue47⟩
instance : Inf Tryd.prog 47 1 8 (.nilFunc) := ⟨inf_of (by kernel_rfl)⟩
instance : Cel Tryd.prog 48 1 := ⟨by kernel_rfl⟩
instance : Siz Tryd.prog 48 1 := ⟨Tryd.sizeOf48⟩
instance : Cel Tryd.prog 49 1 := ⟨by kernel_rfl⟩
instance : Siz Tryd.prog 49 1 := ⟨Tryd.sizeOf49⟩
instance : Agg Tryd.prog 49 false := ⟨Tryd.isAgg49⟩
instance : Zer Tryd.prog 49 (.nilFunc) := ⟨Tryd.zeroValue49⟩
instance : Inf Tryd.prog 49 1 8 (.nilFunc) := ⟨inf_of (by kernel_rfl)⟩
instance : Cel Tryd.prog 50 1 := ⟨by kernel_rfl⟩
instance : Siz Tryd.prog 50 1 := ⟨Tryd.sizeOf50⟩
instance : Agg Tryd.prog 50 false := ⟨Tryd.isAgg50⟩
instance : Zer Tryd.prog 50 (.nilFunc) := ⟨Tryd.zeroValue50⟩
instance : Inf Tryd.prog 50 1 8 (.nilFunc) := ⟨inf_of (by kernel_rfl)⟩
instance : Cel Tryd.prog 51 1 := ⟨by kernel_rfl⟩
instance : Siz Tryd.prog 51 1 := ⟨Tryd.sizeOf51⟩
instance : Agg Tryd.prog 51 false := ⟨Tryd.isAgg51⟩
instance : Zer Tryd.prog 51 (.nilFunc) := ⟨Tryd.zeroValue51⟩
instance : Inf Tryd.prog 51 1 8 (.nilFunc) := ⟨inf_of (by kernel_rfl)⟩
instance : Und Tryd.prog 52 (.pointer 55) := ⟨Tryd.underlying52⟩
instance : Cel Tryd.prog 52 1 := ⟨by kernel_rfl⟩
instance : Siz Tryd.prog 52 1 := ⟨Tryd.sizeOf52⟩
instance : Agg Tryd.prog 52 false := ⟨Tryd.isAgg52⟩
instance : Zer Tryd.prog 52 (.pointer none) := ⟨Tryd.zeroValue52⟩
instance : Inf Tryd.prog 52 1 8 (.pointer none) := ⟨inf_of (by kernel_rfl)⟩
instance : Und Tryd.prog 53 (.slice 5) := ⟨Tryd.underlying53⟩
instance : Cel Tryd.prog 53 1 := ⟨by kernel_rfl⟩
instance : Siz Tryd.prog 53 1 := ⟨Tryd.sizeOf53⟩
instance : Agg Tryd.prog 53 false := ⟨Tryd.isAgg53⟩
instance : Zer Tryd.prog 53 (.slice none 0 0) := ⟨Tryd.zeroValue53⟩
instance : Inf Tryd.prog 53 1 24 (.slice none 0 0) := ⟨inf_of (by kernel_rfl)⟩
instance : Cel Tryd.prog 54 2 := ⟨by kernel_rfl⟩
instance : Siz Tryd.prog 54 2 := ⟨Tryd.sizeOf54⟩
instance : Agg Tryd.prog 54 true := ⟨Tryd.isAgg54⟩
instance : Zer Tryd.prog 54 (.agg #[.pointer none, .slice none 0 0]) := ⟨Tryd.zeroValue54⟩
instance : Inf Tryd.prog 54 2 32 (.agg #[.pointer none, .slice none 0 0]) := ⟨inf_of (by kernel_rfl)⟩
instance : Plc Tryd.prog 54 [(0, 1), (1, 1)] := ⟨⟨_, Tryd.runUnderlying54, fun w => by simp [Tryd.sizeOf52, Tryd.sizeOf53]⟩⟩
instance : Fld Tryd.prog 54 0 0 := ⟨fun w a => by simp [Instr.fieldAt, Instr.sureAddr, fieldPlace, Tryd.runUnderlying54, Tryd.sizeOf52]⟩
instance : Fld Tryd.prog 54 1 1 := ⟨fun w a => by simp [Instr.fieldAt, Instr.sureAddr, fieldPlace, Tryd.runUnderlying54, Tryd.sizeOf53]⟩
instance : Cel Tryd.prog 55 2 := ⟨by kernel_rfl⟩
instance : Siz Tryd.prog 55 2 := ⟨Tryd.sizeOf55⟩
instance : Agg Tryd.prog 55 true := ⟨Tryd.isAgg55⟩
instance : Zer Tryd.prog 55 (.agg #[.pointer none, .slice none 0 0]) := ⟨Tryd.zeroValue55⟩
instance : Inf Tryd.prog 55 2 32 (.agg #[.pointer none, .slice none 0 0]) := ⟨inf_of (by kernel_rfl)⟩
instance : Plc Tryd.prog 55 [(0, 1), (1, 1)] := ⟨⟨_, Tryd.runUnderlying55, fun w => by simp [Tryd.sizeOf52, Tryd.sizeOf53]⟩⟩
instance : Fld Tryd.prog 55 0 0 := ⟨fun w a => by simp [Instr.fieldAt, Instr.sureAddr, fieldPlace, Tryd.runUnderlying55, Tryd.sizeOf52]⟩
instance : Fld Tryd.prog 55 1 1 := ⟨fun w a => by simp [Instr.fieldAt, Instr.sureAddr, fieldPlace, Tryd.runUnderlying55, Tryd.sizeOf53]⟩
instance : Cel Tryd.prog 56 1 := ⟨by kernel_rfl⟩
instance : Siz Tryd.prog 56 1 := ⟨Tryd.sizeOf56⟩
instance : Agg Tryd.prog 56 false := ⟨Tryd.isAgg56⟩
instance : Zer Tryd.prog 56 (.nilFunc) := ⟨Tryd.zeroValue56⟩
instance : Inf Tryd.prog 56 1 8 (.nilFunc) := ⟨inf_of (by kernel_rfl)⟩
instance : Ifc Tryd.prog 57 := ⟨⟨_, Tryd.underlying57⟩⟩
instance : Cel Tryd.prog 57 1 := ⟨by kernel_rfl⟩
instance : Siz Tryd.prog 57 1 := ⟨Tryd.sizeOf57⟩
instance : Agg Tryd.prog 57 false := ⟨Tryd.isAgg57⟩
instance : Zer Tryd.prog 57 (.nilIface) := ⟨Tryd.zeroValue57⟩
instance : Inf Tryd.prog 57 1 16 (.nilIface) := ⟨inf_of (by kernel_rfl)⟩
instance : Ifc Tryd.prog 58 := ⟨⟨_, Tryd.underlying58⟩⟩
instance : Cel Tryd.prog 58 1 := ⟨by kernel_rfl⟩
instance : Siz Tryd.prog 58 1 := ⟨Tryd.sizeOf58⟩
instance : Agg Tryd.prog 58 false := ⟨Tryd.isAgg58⟩
instance : Zer Tryd.prog 58 (.nilIface) := ⟨Tryd.zeroValue58⟩
instance : Inf Tryd.prog 58 1 16 (.nilIface) := ⟨inf_of (by kernel_rfl)⟩
instance : Cel Tryd.prog 59 1 := ⟨by kernel_rfl⟩
instance : Siz Tryd.prog 59 1 := ⟨Tryd.sizeOf59⟩
instance : Cel Tryd.prog 60 1 := ⟨by kernel_rfl⟩
instance : Siz Tryd.prog 60 1 := ⟨Tryd.sizeOf60⟩
instance : Agg Tryd.prog 60 false := ⟨Tryd.isAgg60⟩
instance : Zer Tryd.prog 60 (.nilFunc) := ⟨Tryd.zeroValue60⟩
instance : Inf Tryd.prog 60 1 8 (.nilFunc) := ⟨inf_of (by kernel_rfl)⟩
instance : Cel Tryd.prog 61 1 := ⟨by kernel_rfl⟩
instance : Siz Tryd.prog 61 1 := ⟨Tryd.sizeOf61⟩
instance : Agg Tryd.prog 61 false := ⟨Tryd.isAgg61⟩
instance : Zer Tryd.prog 61 (.nilFunc) := ⟨Tryd.zeroValue61⟩
instance : Inf Tryd.prog 61 1 8 (.nilFunc) := ⟨inf_of (by kernel_rfl)⟩
instance : Cel Tryd.prog 62 1 := ⟨by kernel_rfl⟩
instance : Siz Tryd.prog 62 1 := ⟨Tryd.sizeOf62⟩
instance : Agg Tryd.prog 62 false := ⟨Tryd.isAgg62⟩
instance : Zer Tryd.prog 62 (.nilFunc) := ⟨Tryd.zeroValue62⟩
instance : Inf Tryd.prog 62 1 8 (.nilFunc) := ⟨inf_of (by kernel_rfl)⟩
instance : Cel Tryd.prog 63 1 := ⟨by kernel_rfl⟩
instance : Siz Tryd.prog 63 1 := ⟨Tryd.sizeOf63⟩
instance : Cel Tryd.prog 64 1 := ⟨by kernel_rfl⟩
instance : Siz Tryd.prog 64 1 := ⟨Tryd.sizeOf64⟩
instance : Agg Tryd.prog 64 false := ⟨Tryd.isAgg64⟩
instance : Zer Tryd.prog 64 (.nilFunc) := ⟨Tryd.zeroValue64⟩
instance : Inf Tryd.prog 64 1 8 (.nilFunc) := ⟨inf_of (by kernel_rfl)⟩
instance : Cel Tryd.prog 65 1 := ⟨by kernel_rfl⟩
instance : Siz Tryd.prog 65 1 := ⟨Tryd.sizeOf65⟩
instance : Agg Tryd.prog 65 false := ⟨Tryd.isAgg65⟩
instance : Zer Tryd.prog 65 (.nilFunc) := ⟨Tryd.zeroValue65⟩
instance : Inf Tryd.prog 65 1 8 (.nilFunc) := ⟨inf_of (by kernel_rfl)⟩
instance : Cel Tryd.prog 66 1 := ⟨by kernel_rfl⟩
instance : Siz Tryd.prog 66 1 := ⟨Tryd.sizeOf66⟩
instance : Agg Tryd.prog 66 false := ⟨Tryd.isAgg66⟩
instance : Zer Tryd.prog 66 (.nilFunc) := ⟨Tryd.zeroValue66⟩
instance : Inf Tryd.prog 66 1 8 (.nilFunc) := ⟨inf_of (by kernel_rfl)⟩
instance : Cel Tryd.prog 67 1 := ⟨by kernel_rfl⟩
instance : Siz Tryd.prog 67 1 := ⟨Tryd.sizeOf67⟩
instance : Agg Tryd.prog 67 false := ⟨Tryd.isAgg67⟩
instance : Zer Tryd.prog 67 (.nilFunc) := ⟨Tryd.zeroValue67⟩
instance : Inf Tryd.prog 67 1 8 (.nilFunc) := ⟨inf_of (by kernel_rfl)⟩
instance : Und Tryd.prog 68 (.pointer 5) := ⟨Tryd.underlying68⟩
instance : Cel Tryd.prog 68 1 := ⟨by kernel_rfl⟩
instance : Siz Tryd.prog 68 1 := ⟨Tryd.sizeOf68⟩
instance : Agg Tryd.prog 68 false := ⟨Tryd.isAgg68⟩
instance : Zer Tryd.prog 68 (.pointer none) := ⟨Tryd.zeroValue68⟩
instance : Inf Tryd.prog 68 1 8 (.pointer none) := ⟨inf_of (by kernel_rfl)⟩
instance : Cel Tryd.prog 69 1 := ⟨by kernel_rfl⟩
instance : Siz Tryd.prog 69 1 := ⟨Tryd.sizeOf69⟩
instance : Agg Tryd.prog 69 false := ⟨Tryd.isAgg69⟩
instance : Zer Tryd.prog 69 (.nilFunc) := ⟨Tryd.zeroValue69⟩
instance : Inf Tryd.prog 69 1 8 (.nilFunc) := ⟨inf_of (by kernel_rfl)⟩
instance : Cel Tryd.prog 70 1 := ⟨by kernel_rfl⟩
instance : Siz Tryd.prog 70 1 := ⟨Tryd.sizeOf70⟩
instance : Agg Tryd.prog 70 false := ⟨Tryd.isAgg70⟩
instance : Zer Tryd.prog 70 (.nilFunc) := ⟨Tryd.zeroValue70⟩
instance : Inf Tryd.prog 70 1 8 (.nilFunc) := ⟨inf_of (by kernel_rfl)⟩
instance : Cel Tryd.prog 71 1 := ⟨by kernel_rfl⟩
instance : Siz Tryd.prog 71 1 := ⟨Tryd.sizeOf71⟩
instance : Agg Tryd.prog 71 false := ⟨Tryd.isAgg71⟩
instance : Zer Tryd.prog 71 (.nilFunc) := ⟨Tryd.zeroValue71⟩
instance : Inf Tryd.prog 71 1 8 (.nilFunc) := ⟨inf_of (by kernel_rfl)⟩
instance : Cel Tryd.prog 72 1 := ⟨by kernel_rfl⟩
instance : Siz Tryd.prog 72 1 := ⟨Tryd.sizeOf72⟩
instance : Agg Tryd.prog 72 false := ⟨Tryd.isAgg72⟩
instance : Zer Tryd.prog 72 (.nilFunc) := ⟨Tryd.zeroValue72⟩
instance : Inf Tryd.prog 72 1 8 (.nilFunc) := ⟨inf_of (by kernel_rfl)⟩
instance : Cel Tryd.prog 73 1 := ⟨by kernel_rfl⟩
instance : Siz Tryd.prog 73 1 := ⟨Tryd.sizeOf73⟩
instance : Agg Tryd.prog 73 false := ⟨Tryd.isAgg73⟩
instance : Zer Tryd.prog 73 (.nilFunc) := ⟨Tryd.zeroValue73⟩
instance : Inf Tryd.prog 73 1 8 (.nilFunc) := ⟨inf_of (by kernel_rfl)⟩
instance : Cel Tryd.prog 74 1 := ⟨by kernel_rfl⟩
instance : Siz Tryd.prog 74 1 := ⟨Tryd.sizeOf74⟩
instance : Agg Tryd.prog 74 false := ⟨Tryd.isAgg74⟩
instance : Zer Tryd.prog 74 (.nilFunc) := ⟨Tryd.zeroValue74⟩
instance : Inf Tryd.prog 74 1 8 (.nilFunc) := ⟨inf_of (by kernel_rfl)⟩
instance : Cel Tryd.prog 75 1 := ⟨by kernel_rfl⟩
instance : Siz Tryd.prog 75 1 := ⟨Tryd.sizeOf75⟩
instance : Agg Tryd.prog 75 false := ⟨Tryd.isAgg75⟩
instance : Zer Tryd.prog 75 (.nilFunc) := ⟨Tryd.zeroValue75⟩
instance : Inf Tryd.prog 75 1 8 (.nilFunc) := ⟨inf_of (by kernel_rfl)⟩
instance : Cel Tryd.prog 76 1 := ⟨by kernel_rfl⟩
instance : Siz Tryd.prog 76 1 := ⟨Tryd.sizeOf76⟩
instance : Agg Tryd.prog 76 false := ⟨Tryd.isAgg76⟩
instance : Zer Tryd.prog 76 (.nilFunc) := ⟨Tryd.zeroValue76⟩
instance : Inf Tryd.prog 76 1 8 (.nilFunc) := ⟨inf_of (by kernel_rfl)⟩
instance : Cel Tryd.prog 77 1 := ⟨by kernel_rfl⟩
instance : Siz Tryd.prog 77 1 := ⟨Tryd.sizeOf77⟩
instance : Agg Tryd.prog 77 false := ⟨Tryd.isAgg77⟩
instance : Zer Tryd.prog 77 (.nilFunc) := ⟨Tryd.zeroValue77⟩
instance : Inf Tryd.prog 77 1 8 (.nilFunc) := ⟨inf_of (by kernel_rfl)⟩
instance : Cel Tryd.prog 78 1 := ⟨by kernel_rfl⟩
instance : Siz Tryd.prog 78 1 := ⟨Tryd.sizeOf78⟩
instance : Agg Tryd.prog 78 false := ⟨Tryd.isAgg78⟩
instance : Zer Tryd.prog 78 (.nilFunc) := ⟨Tryd.zeroValue78⟩
instance : Inf Tryd.prog 78 1 8 (.nilFunc) := ⟨inf_of (by kernel_rfl)⟩
instance : Und Tryd.prog 79 (.array 24 5) := ⟨Tryd.underlying79⟩
instance : Cel Tryd.prog 79 24 := ⟨by kernel_rfl⟩
instance : Siz Tryd.prog 79 24 := ⟨Tryd.sizeOf79⟩
instance : Agg Tryd.prog 79 true := ⟨Tryd.isAgg79⟩
instance : Zer Tryd.prog 79 (.agg #[.int .u8 0, .int .u8 0, .int .u8 0, .int .u8 0, .int .u8 0, .int .u8 0, .int .u8 0, .int .u8 0, .int .u8 0, .int .u8 0, .int .u8 0, .int .u8 0, .int .u8 0, .int .u8 0, .int .u8 0, .int .u8 0, .int .u8 0, .int .u8 0, .int .u8 0, .int .u8 0, .int .u8 0, .int .u8 0, .int .u8 0, .int .u8 0]) := ⟨Tryd.zeroValue79⟩
instance : Inf Tryd.prog 79 24 24 (.agg #[.int .u8 0, .int .u8 0, .int .u8 0, .int .u8 0, .int .u8 0, .int .u8 0, .int .u8 0, .int .u8 0, .int .u8 0, .int .u8 0, .int .u8 0, .int .u8 0, .int .u8 0, .int .u8 0, .int .u8 0, .int .u8 0, .int .u8 0, .int .u8 0, .int .u8 0, .int .u8 0, .int .u8 0, .int .u8 0, .int .u8 0, .int .u8 0]) := ⟨inf_of (by kernel_rfl)⟩
instance : Und Tryd.prog 80 (.int .u64) := ⟨Tryd.underlying80⟩
instance : Cel Tryd.prog 80 1 := ⟨by kernel_rfl⟩
instance : Siz Tryd.prog 80 1 := ⟨Tryd.sizeOf80⟩
instance : Agg Tryd.prog 80 false := ⟨Tryd.isAgg80⟩
instance : Zer Tryd.prog 80 (.int .u64 0) := ⟨Tryd.zeroValue80⟩
instance : Inf Tryd.prog 80 1 8 (.int .u64 0) := ⟨inf_of (by kernel_rfl)⟩
instance : Cel Tryd.prog 81 1 := ⟨by kernel_rfl⟩
instance : Siz Tryd.prog 81 1 := ⟨Tryd.sizeOf81⟩
instance : Agg Tryd.prog 81 false := ⟨Tryd.isAgg81⟩
instance : Zer Tryd.prog 81 (.nilFunc) := ⟨Tryd.zeroValue81⟩
instance : Inf Tryd.prog 81 1 8 (.nilFunc) := ⟨inf_of (by kernel_rfl)⟩
instance : Cel Tryd.prog 82 1 := ⟨by kernel_rfl⟩
instance : Siz Tryd.prog 82 1 := ⟨Tryd.sizeOf82⟩
instance : Agg Tryd.prog 82 false := ⟨Tryd.isAgg82⟩
instance : Zer Tryd.prog 82 (.nilFunc) := ⟨Tryd.zeroValue82⟩
instance : Inf Tryd.prog 82 1 8 (.nilFunc) := ⟨inf_of (by kernel_rfl)⟩
instance : Cel Tryd.prog 83 1 := ⟨by kernel_rfl⟩
instance : Siz Tryd.prog 83 1 := ⟨Tryd.sizeOf83⟩
instance : Cel Tryd.prog 84 1 := ⟨by kernel_rfl⟩
instance : Siz Tryd.prog 84 1 := ⟨Tryd.sizeOf84⟩
instance : Agg Tryd.prog 84 false := ⟨Tryd.isAgg84⟩
instance : Zer Tryd.prog 84 (.nilFunc) := ⟨Tryd.zeroValue84⟩
instance : Inf Tryd.prog 84 1 8 (.nilFunc) := ⟨inf_of (by kernel_rfl)⟩
instance : Und Tryd.prog 85 .unsafePointer := ⟨Tryd.underlying85⟩
instance : Cel Tryd.prog 85 1 := ⟨by kernel_rfl⟩
instance : Siz Tryd.prog 85 1 := ⟨Tryd.sizeOf85⟩
instance : Agg Tryd.prog 85 false := ⟨Tryd.isAgg85⟩
instance : Zer Tryd.prog 85 (.pointer none) := ⟨Tryd.zeroValue85⟩
instance : Inf Tryd.prog 85 1 8 (.pointer none) := ⟨inf_of (by kernel_rfl)⟩
instance : Cel Tryd.prog 86 1 := ⟨by kernel_rfl⟩
instance : Siz Tryd.prog 86 1 := ⟨Tryd.sizeOf86⟩
instance : Agg Tryd.prog 86 false := ⟨Tryd.isAgg86⟩
instance : Zer Tryd.prog 86 (.nilFunc) := ⟨Tryd.zeroValue86⟩
instance : Inf Tryd.prog 86 1 8 (.nilFunc) := ⟨inf_of (by kernel_rfl)⟩
instance : Cel Tryd.prog 87 1 := ⟨by kernel_rfl⟩
instance : Siz Tryd.prog 87 1 := ⟨Tryd.sizeOf87⟩
instance : Agg Tryd.prog 87 false := ⟨Tryd.isAgg87⟩
instance : Zer Tryd.prog 87 (.nilFunc) := ⟨Tryd.zeroValue87⟩
instance : Inf Tryd.prog 87 1 8 (.nilFunc) := ⟨inf_of (by kernel_rfl)⟩
instance : Cel Tryd.prog 88 1 := ⟨by kernel_rfl⟩
instance : Siz Tryd.prog 88 1 := ⟨Tryd.sizeOf88⟩
instance : Agg Tryd.prog 88 false := ⟨Tryd.isAgg88⟩
instance : Zer Tryd.prog 88 (.nilFunc) := ⟨Tryd.zeroValue88⟩
instance : Inf Tryd.prog 88 1 8 (.nilFunc) := ⟨inf_of (by kernel_rfl)⟩
instance : Cel Tryd.prog 89 1 := ⟨by kernel_rfl⟩
instance : Siz Tryd.prog 89 1 := ⟨Tryd.sizeOf89⟩
instance : Cel Tryd.prog 90 1 := ⟨by kernel_rfl⟩
instance : Siz Tryd.prog 90 1 := ⟨Tryd.sizeOf90⟩
instance : Agg Tryd.prog 90 false := ⟨Tryd.isAgg90⟩
instance : Zer Tryd.prog 90 (.nilFunc) := ⟨Tryd.zeroValue90⟩
instance : Inf Tryd.prog 90 1 8 (.nilFunc) := ⟨inf_of (by kernel_rfl)⟩
instance : Cel Tryd.prog 91 1 := ⟨by kernel_rfl⟩
instance : Siz Tryd.prog 91 1 := ⟨Tryd.sizeOf91⟩
instance : Agg Tryd.prog 91 false := ⟨Tryd.isAgg91⟩
instance : Zer Tryd.prog 91 (.nilFunc) := ⟨Tryd.zeroValue91⟩
instance : Inf Tryd.prog 91 1 8 (.nilFunc) := ⟨inf_of (by kernel_rfl)⟩
instance : Cel Tryd.prog 92 1 := ⟨by kernel_rfl⟩
instance : Siz Tryd.prog 92 1 := ⟨Tryd.sizeOf92⟩
instance : Agg Tryd.prog 92 false := ⟨Tryd.isAgg92⟩
instance : Zer Tryd.prog 92 (.nilFunc) := ⟨Tryd.zeroValue92⟩
instance : Inf Tryd.prog 92 1 8 (.nilFunc) := ⟨inf_of (by kernel_rfl)⟩
instance : Und Tryd.prog 93 (.int .u64) := ⟨Tryd.underlying93⟩
instance : Cel Tryd.prog 93 1 := ⟨by kernel_rfl⟩
instance : Siz Tryd.prog 93 1 := ⟨Tryd.sizeOf93⟩
instance : Agg Tryd.prog 93 false := ⟨Tryd.isAgg93⟩
instance : Zer Tryd.prog 93 (.int .u64 0) := ⟨Tryd.zeroValue93⟩
instance : Inf Tryd.prog 93 1 8 (.int .u64 0) := ⟨inf_of (by kernel_rfl)⟩
instance : Und Tryd.prog 94 (.int .i64) := ⟨Tryd.underlying94⟩
instance : Cel Tryd.prog 94 1 := ⟨by kernel_rfl⟩
instance : Siz Tryd.prog 94 1 := ⟨Tryd.sizeOf94⟩
instance : Agg Tryd.prog 94 false := ⟨Tryd.isAgg94⟩
instance : Zer Tryd.prog 94 (.int .i64 0) := ⟨Tryd.zeroValue94⟩
instance : Inf Tryd.prog 94 1 8 (.int .i64 0) := ⟨inf_of (by kernel_rfl)⟩
instance : Cel Tryd.prog 95 1 := ⟨by kernel_rfl⟩
instance : Siz Tryd.prog 95 1 := ⟨Tryd.sizeOf95⟩
instance : Cel Tryd.prog 96 1 := ⟨by kernel_rfl⟩
instance : Siz Tryd.prog 96 1 := ⟨Tryd.sizeOf96⟩
instance : Agg Tryd.prog 96 false := ⟨Tryd.isAgg96⟩
instance : Zer Tryd.prog 96 (.nilFunc) := ⟨Tryd.zeroValue96⟩
instance : Inf Tryd.prog 96 1 8 (.nilFunc) := ⟨inf_of (by kernel_rfl)⟩
instance : Und Tryd.prog 97 (.pointer 114) := ⟨Tryd.underlying97⟩
instance : Cel Tryd.prog 97 1 := ⟨by kernel_rfl⟩
instance : Siz Tryd.prog 97 1 := ⟨Tryd.sizeOf97⟩
instance : Agg Tryd.prog 97 false := ⟨Tryd.isAgg97⟩
instance : Zer Tryd.prog 97 (.pointer none) := ⟨Tryd.zeroValue97⟩
instance : Inf Tryd.prog 97 1 8 (.pointer none) := ⟨inf_of (by kernel_rfl)⟩
instance : Cel Tryd.prog 98 1 := ⟨by kernel_rfl⟩
instance : Siz Tryd.prog 98 1 := ⟨Tryd.sizeOf98⟩
instance : Agg Tryd.prog 98 false := ⟨Tryd.isAgg98⟩
instance : Zer Tryd.prog 98 (.nilFunc) := ⟨Tryd.zeroValue98⟩
instance : Inf Tryd.prog 98 1 8 (.nilFunc) := ⟨inf_of (by kernel_rfl)⟩
instance : Cel Tryd.prog 99 1 := ⟨by kernel_rfl⟩
instance : Siz Tryd.prog 99 1 := ⟨Tryd.sizeOf99⟩
instance : Agg Tryd.prog 99 false := ⟨Tryd.isAgg99⟩
instance : Zer Tryd.prog 99 (.nilFunc) := ⟨Tryd.zeroValue99⟩
instance : Inf Tryd.prog 99 1 8 (.nilFunc) := ⟨inf_of (by kernel_rfl)⟩
instance : Cel Tryd.prog 100 1 := ⟨by kernel_rfl⟩
instance : Siz Tryd.prog 100 1 := ⟨Tryd.sizeOf100⟩
instance : Agg Tryd.prog 100 false := ⟨Tryd.isAgg100⟩
instance : Zer Tryd.prog 100 (.nilFunc) := ⟨Tryd.zeroValue100⟩
instance : Inf Tryd.prog 100 1 8 (.nilFunc) := ⟨inf_of (by kernel_rfl)⟩
instance : Cel Tryd.prog 101 1 := ⟨by kernel_rfl⟩
instance : Siz Tryd.prog 101 1 := ⟨Tryd.sizeOf101⟩
instance : Agg Tryd.prog 101 false := ⟨Tryd.isAgg101⟩
instance : Zer Tryd.prog 101 (.nilFunc) := ⟨Tryd.zeroValue101⟩
instance : Inf Tryd.prog 101 1 8 (.nilFunc) := ⟨inf_of (by kernel_rfl)⟩
instance : Cel Tryd.prog 102 1 := ⟨by kernel_rfl⟩
instance : Siz Tryd.prog 102 1 := ⟨Tryd.sizeOf102⟩
instance : Agg Tryd.prog 102 false := ⟨Tryd.isAgg102⟩
instance : Zer Tryd.prog 102 (.nilFunc) := ⟨Tryd.zeroValue102⟩
instance : Inf Tryd.prog 102 1 8 (.nilFunc) := ⟨inf_of (by kernel_rfl)⟩
instance : Cel Tryd.prog 103 1 := ⟨by kernel_rfl⟩
instance : Siz Tryd.prog 103 1 := ⟨Tryd.sizeOf103⟩
instance : Agg Tryd.prog 103 false := ⟨Tryd.isAgg103⟩
instance : Zer Tryd.prog 103 (.nilFunc) := ⟨Tryd.zeroValue103⟩
instance : Inf Tryd.prog 103 1 8 (.nilFunc) := ⟨inf_of (by kernel_rfl)⟩
instance : Und Tryd.prog 104 (.array 20 80) := ⟨Tryd.underlying104⟩
instance : Cel Tryd.prog 104 20 := ⟨by kernel_rfl⟩
instance : Siz Tryd.prog 104 20 := ⟨Tryd.sizeOf104⟩
instance : Agg Tryd.prog 104 true := ⟨Tryd.isAgg104⟩
instance : Zer Tryd.prog 104 (.agg #[.int .u64 0, .int .u64 0, .int .u64 0, .int .u64 0, .int .u64 0, .int .u64 0, .int .u64 0, .int .u64 0, .int .u64 0, .int .u64 0, .int .u64 0, .int .u64 0, .int .u64 0, .int .u64 0, .int .u64 0, .int .u64 0, .int .u64 0, .int .u64 0, .int .u64 0, .int .u64 0]) := ⟨Tryd.zeroValue104⟩
instance : Inf Tryd.prog 104 20 160 (.agg #[.int .u64 0, .int .u64 0, .int .u64 0, .int .u64 0, .int .u64 0, .int .u64 0, .int .u64 0, .int .u64 0, .int .u64 0, .int .u64 0, .int .u64 0, .int .u64 0, .int .u64 0, .int .u64 0, .int .u64 0, .int .u64 0, .int .u64 0, .int .u64 0, .int .u64 0, .int .u64 0]) := ⟨inf_of (by kernel_rfl)⟩
instance : Und Tryd.prog 105 (.int .u32) := ⟨Tryd.underlying105⟩
instance : Cel Tryd.prog 105 1 := ⟨by kernel_rfl⟩
instance : Siz Tryd.prog 105 1 := ⟨Tryd.sizeOf105⟩
instance : Agg Tryd.prog 105 false := ⟨Tryd.isAgg105⟩
instance : Zer Tryd.prog 105 (.int .u32 0) := ⟨Tryd.zeroValue105⟩
instance : Inf Tryd.prog 105 1 4 (.int .u32 0) := ⟨inf_of (by kernel_rfl)⟩
instance : Und Tryd.prog 106 (.array 65 5) := ⟨Tryd.underlying106⟩
instance : Cel Tryd.prog 106 65 := ⟨by kernel_rfl⟩
instance : Siz Tryd.prog 106 65 := ⟨Tryd.sizeOf106⟩
instance : Agg Tryd.prog 106 true := ⟨Tryd.isAgg106⟩
instance : Cel Tryd.prog 107 1 := ⟨by kernel_rfl⟩
instance : Siz Tryd.prog 107 1 := ⟨Tryd.sizeOf107⟩
instance : Agg Tryd.prog 107 false := ⟨Tryd.isAgg107⟩
instance : Zer Tryd.prog 107 (.nilFunc) := ⟨Tryd.zeroValue107⟩
instance : Inf Tryd.prog 107 1 8 (.nilFunc) := ⟨inf_of (by kernel_rfl)⟩
instance : Cel Tryd.prog 108 1 := ⟨by kernel_rfl⟩
instance : Siz Tryd.prog 108 1 := ⟨Tryd.sizeOf108⟩
instance : Cel Tryd.prog 109 1 := ⟨by kernel_rfl⟩
instance : Siz Tryd.prog 109 1 := ⟨Tryd.sizeOf109⟩
instance : Agg Tryd.prog 109 false := ⟨Tryd.isAgg109⟩
instance : Zer Tryd.prog 109 (.nilFunc) := ⟨Tryd.zeroValue109⟩
instance : Inf Tryd.prog 109 1 8 (.nilFunc) := ⟨inf_of (by kernel_rfl)⟩
instance : Cel Tryd.prog 110 1 := ⟨by kernel_rfl⟩
instance : Siz Tryd.prog 110 1 := ⟨Tryd.sizeOf110⟩
instance : Agg Tryd.prog 110 false := ⟨Tryd.isAgg110⟩
instance : Zer Tryd.prog 110 (.nilFunc) := ⟨Tryd.zeroValue110⟩
instance : Inf Tryd.prog 110 1 8 (.nilFunc) := ⟨inf_of (by kernel_rfl)⟩
instance : Cel Tryd.prog 111 1 := ⟨by kernel_rfl⟩
instance : Siz Tryd.prog 111 1 := ⟨Tryd.sizeOf111⟩
instance : Agg Tryd.prog 111 false := ⟨Tryd.isAgg111⟩
instance : Zer Tryd.prog 111 (.nilFunc) := ⟨Tryd.zeroValue111⟩
instance : Inf Tryd.prog 111 1 8 (.nilFunc) := ⟨inf_of (by kernel_rfl)⟩
instance : Cel Tryd.prog 112 1 := ⟨by kernel_rfl⟩
instance : Siz Tryd.prog 112 1 := ⟨Tryd.sizeOf112⟩
instance : Agg Tryd.prog 112 false := ⟨Tryd.isAgg112⟩
instance : Zer Tryd.prog 112 (.nilFunc) := ⟨Tryd.zeroValue112⟩
instance : Inf Tryd.prog 112 1 8 (.nilFunc) := ⟨inf_of (by kernel_rfl)⟩
instance : Cel Tryd.prog 113 3 := ⟨by kernel_rfl⟩
instance : Siz Tryd.prog 113 3 := ⟨Tryd.sizeOf113⟩
instance : Agg Tryd.prog 113 true := ⟨Tryd.isAgg113⟩
instance : Zer Tryd.prog 113 (.agg #[.string ⟨#[]⟩, .string ⟨#[]⟩, .nilIface]) := ⟨Tryd.zeroValue113⟩
instance : Inf Tryd.prog 113 3 48 (.agg #[.string ⟨#[]⟩, .string ⟨#[]⟩, .nilIface]) := ⟨inf_of (by kernel_rfl)⟩
instance : Plc Tryd.prog 113 [(0, 1), (1, 1), (2, 1)] := ⟨⟨_, Tryd.runUnderlying113, fun w => by simp [Tryd.sizeOf58, Tryd.sizeOf9]⟩⟩
instance : Fld Tryd.prog 113 0 0 := ⟨fun w a => by simp [Instr.fieldAt, Instr.sureAddr, fieldPlace, Tryd.runUnderlying113, Tryd.sizeOf9]⟩
instance : Fld Tryd.prog 113 1 1 := ⟨fun w a => by simp [Instr.fieldAt, Instr.sureAddr, fieldPlace, Tryd.runUnderlying113, Tryd.sizeOf9]⟩
instance : Fld Tryd.prog 113 2 2 := ⟨fun w a => by simp [Instr.fieldAt, Instr.sureAddr, fieldPlace, Tryd.runUnderlying113, Tryd.sizeOf58]⟩
instance : Cel Tryd.prog 114 3 := ⟨by kernel_rfl⟩
instance : Siz Tryd.prog 114 3 := ⟨Tryd.sizeOf114⟩
instance : Agg Tryd.prog 114 true := ⟨Tryd.isAgg114⟩
instance : Zer Tryd.prog 114 (.agg #[.string ⟨#[]⟩, .string ⟨#[]⟩, .nilIface]) := ⟨Tryd.zeroValue114⟩
instance : Inf Tryd.prog 114 3 48 (.agg #[.string ⟨#[]⟩, .string ⟨#[]⟩, .nilIface]) := ⟨inf_of (by kernel_rfl)⟩
instance : Plc Tryd.prog 114 [(0, 1), (1, 1), (2, 1)] := ⟨⟨_, Tryd.runUnderlying114, fun w => by simp [Tryd.sizeOf58, Tryd.sizeOf9]⟩⟩
instance : Fld Tryd.prog 114 0 0 := ⟨fun w a => by simp [Instr.fieldAt, Instr.sureAddr, fieldPlace, Tryd.runUnderlying114, Tryd.sizeOf9]⟩
instance : Fld Tryd.prog 114 1 1 := ⟨fun w a => by simp [Instr.fieldAt, Instr.sureAddr, fieldPlace, Tryd.runUnderlying114, Tryd.sizeOf9]⟩
instance : Fld Tryd.prog 114 2 2 := ⟨fun w a => by simp [Instr.fieldAt, Instr.sureAddr, fieldPlace, Tryd.runUnderlying114, Tryd.sizeOf58]⟩
instance : Cel Tryd.prog 115 1 := ⟨by kernel_rfl⟩
instance : Siz Tryd.prog 115 1 := ⟨Tryd.sizeOf115⟩
instance : Agg Tryd.prog 115 false := ⟨Tryd.isAgg115⟩
instance : Zer Tryd.prog 115 (.nilFunc) := ⟨Tryd.zeroValue115⟩
instance : Inf Tryd.prog 115 1 8 (.nilFunc) := ⟨inf_of (by kernel_rfl)⟩
instance : Cel Tryd.prog 116 1 := ⟨by kernel_rfl⟩
instance : Siz Tryd.prog 116 1 := ⟨Tryd.sizeOf116⟩
instance : Agg Tryd.prog 116 false := ⟨Tryd.isAgg116⟩
instance : Zer Tryd.prog 116 (.nilFunc) := ⟨Tryd.zeroValue116⟩
instance : Inf Tryd.prog 116 1 8 (.nilFunc) := ⟨inf_of (by kernel_rfl)⟩
instance : Und Tryd.prog 117 (.int .i64) := ⟨Tryd.underlying117⟩
instance : Cel Tryd.prog 117 1 := ⟨by kernel_rfl⟩
instance : Siz Tryd.prog 117 1 := ⟨Tryd.sizeOf117⟩
instance : Agg Tryd.prog 117 false := ⟨Tryd.isAgg117⟩
instance : Zer Tryd.prog 117 (.int .i64 0) := ⟨Tryd.zeroValue117⟩
instance : Inf Tryd.prog 117 1 8 (.int .i64 0) := ⟨inf_of (by kernel_rfl)⟩
instance : Cel Tryd.prog 118 1 := ⟨by kernel_rfl⟩
instance : Siz Tryd.prog 118 1 := ⟨Tryd.sizeOf118⟩
instance : Cel Tryd.prog 119 1 := ⟨by kernel_rfl⟩
instance : Siz Tryd.prog 119 1 := ⟨Tryd.sizeOf119⟩
instance : Agg Tryd.prog 119 false := ⟨Tryd.isAgg119⟩
instance : Zer Tryd.prog 119 (.nilFunc) := ⟨Tryd.zeroValue119⟩
instance : Inf Tryd.prog 119 1 8 (.nilFunc) := ⟨inf_of (by kernel_rfl)⟩
instance : Cel Tryd.prog 120 1 := ⟨by kernel_rfl⟩
instance : Siz Tryd.prog 120 1 := ⟨Tryd.sizeOf120⟩
instance : Agg Tryd.prog 120 false := ⟨Tryd.isAgg120⟩
instance : Zer Tryd.prog 120 (.nilFunc) := ⟨Tryd.zeroValue120⟩
instance : Inf Tryd.prog 120 1 8 (.nilFunc) := ⟨inf_of (by kernel_rfl)⟩
instance : Cel Tryd.prog 121 1 := ⟨by kernel_rfl⟩
instance : Siz Tryd.prog 121 1 := ⟨Tryd.sizeOf121⟩
instance : Agg Tryd.prog 121 false := ⟨Tryd.isAgg121⟩
instance : Zer Tryd.prog 121 (.nilFunc) := ⟨Tryd.zeroValue121⟩
instance : Inf Tryd.prog 121 1 8 (.nilFunc) := ⟨inf_of (by kernel_rfl)⟩
instance : Cel Tryd.prog 122 1 := ⟨by kernel_rfl⟩
instance : Siz Tryd.prog 122 1 := ⟨Tryd.sizeOf122⟩
instance : Cel Tryd.prog 123 1 := ⟨by kernel_rfl⟩
instance : Siz Tryd.prog 123 1 := ⟨Tryd.sizeOf123⟩
instance : Agg Tryd.prog 123 false := ⟨Tryd.isAgg123⟩
instance : Zer Tryd.prog 123 (.nilFunc) := ⟨Tryd.zeroValue123⟩
instance : Inf Tryd.prog 123 1 8 (.nilFunc) := ⟨inf_of (by kernel_rfl)⟩
instance : Cel Tryd.prog 124 1 := ⟨by kernel_rfl⟩
instance : Siz Tryd.prog 124 1 := ⟨Tryd.sizeOf124⟩
instance : Agg Tryd.prog 124 false := ⟨Tryd.isAgg124⟩
instance : Zer Tryd.prog 124 (.nilFunc) := ⟨Tryd.zeroValue124⟩
instance : Inf Tryd.prog 124 1 8 (.nilFunc) := ⟨inf_of (by kernel_rfl)⟩
instance : Und Tryd.prog 125 (.array 256 5) := ⟨Tryd.underlying125⟩
instance : Cel Tryd.prog 125 256 := ⟨by kernel_rfl⟩
instance : Siz Tryd.prog 125 256 := ⟨Tryd.sizeOf125⟩
instance : Agg Tryd.prog 125 true := ⟨Tryd.isAgg125⟩
instance : Cel Tryd.prog 126 2 := ⟨by kernel_rfl⟩
instance : Siz Tryd.prog 126 2 := ⟨Tryd.sizeOf126⟩
instance : Agg Tryd.prog 126 true := ⟨Tryd.isAgg126⟩
instance : Zer Tryd.prog 126 (.agg #[.int .u8 0, .int .u8 0]) := ⟨Tryd.zeroValue126⟩
instance : Inf Tryd.prog 126 2 2 (.agg #[.int .u8 0, .int .u8 0]) := ⟨inf_of (by kernel_rfl)⟩
instance : Plc Tryd.prog 126 [(0, 1), (1, 1)] := ⟨⟨_, Tryd.runUnderlying126, fun w => by simp [Tryd.sizeOf5]⟩⟩
instance : Fld Tryd.prog 126 0 0 := ⟨fun w a => by simp [Instr.fieldAt, Instr.sureAddr, fieldPlace, Tryd.runUnderlying126, Tryd.sizeOf5]⟩
instance : Fld Tryd.prog 126 1 1 := ⟨fun w a => by simp [Instr.fieldAt, Instr.sureAddr, fieldPlace, Tryd.runUnderlying126, Tryd.sizeOf5]⟩
instance : Cel Tryd.prog 127 2 := ⟨by kernel_rfl⟩
instance : Siz Tryd.prog 127 2 := ⟨Tryd.sizeOf127⟩
instance : Agg Tryd.prog 127 true := ⟨Tryd.isAgg127⟩
instance : Zer Tryd.prog 127 (.agg #[.int .u8 0, .int .u8 0]) := ⟨Tryd.zeroValue127⟩
instance : Inf Tryd.prog 127 2 2 (.agg #[.int .u8 0, .int .u8 0]) := ⟨inf_of (by kernel_rfl)⟩
instance : Plc Tryd.prog 127 [(0, 1), (1, 1)] := ⟨⟨_, Tryd.runUnderlying127, fun w => by simp [Tryd.sizeOf5]⟩⟩
instance : Fld Tryd.prog 127 0 0 := ⟨fun w a => by simp [Instr.fieldAt, Instr.sureAddr, fieldPlace, Tryd.runUnderlying127, Tryd.sizeOf5]⟩
instance : Fld Tryd.prog 127 1 1 := ⟨fun w a => by simp [Instr.fieldAt, Instr.sureAddr, fieldPlace, Tryd.runUnderlying127, Tryd.sizeOf5]⟩
instance : Und Tryd.prog 128 (.array 16 127) := ⟨Tryd.underlying128⟩
instance : Cel Tryd.prog 128 32 := ⟨by kernel_rfl⟩
instance : Siz Tryd.prog 128 32 := ⟨Tryd.sizeOf128⟩
instance : Agg Tryd.prog 128 true := ⟨Tryd.isAgg128⟩
instance : Zer Tryd.prog 128 (.agg #[.int .u8 0, .int .u8 0, .int .u8 0, .int .u8 0, .int .u8 0, .int .u8 0, .int .u8 0, .int .u8 0, .int .u8 0, .int .u8 0, .int .u8 0, .int .u8 0, .int .u8 0, .int .u8 0, .int .u8 0, .int .u8 0, .int .u8 0, .int .u8 0, .int .u8 0, .int .u8 0, .int .u8 0, .int .u8 0, .int .u8 0, .int .u8 0, .int .u8 0, .int .u8 0, .int .u8 0, .int .u8 0, .int .u8 0, .int .u8 0, .int .u8 0, .int .u8 0]) := ⟨Tryd.zeroValue128⟩
instance : Inf Tryd.prog 128 32 32 (.agg #[.int .u8 0, .int .u8 0, .int .u8 0, .int .u8 0, .int .u8 0, .int .u8 0, .int .u8 0, .int .u8 0, .int .u8 0, .int .u8 0, .int .u8 0, .int .u8 0, .int .u8 0, .int .u8 0, .int .u8 0, .int .u8 0, .int .u8 0, .int .u8 0, .int .u8 0, .int .u8 0, .int .u8 0, .int .u8 0, .int .u8 0, .int .u8 0, .int .u8 0, .int .u8 0, .int .u8 0, .int .u8 0, .int .u8 0, .int .u8 0, .int .u8 0, .int .u8 0]) := ⟨inf_of (by kernel_rfl)⟩
instance : Und Tryd.prog 129 (.pointer 131) := ⟨Tryd.underlying129⟩
instance : Cel Tryd.prog 129 1 := ⟨by kernel_rfl⟩
instance : Siz Tryd.prog 129 1 := ⟨Tryd.sizeOf129⟩
instance : Agg Tryd.prog 129 false := ⟨Tryd.isAgg129⟩
instance : Zer Tryd.prog 129 (.pointer none) := ⟨Tryd.zeroValue129⟩
instance : Inf Tryd.prog 129 1 8 (.pointer none) := ⟨inf_of (by kernel_rfl)⟩
instance : Cel Tryd.prog 130 1 := ⟨by kernel_rfl⟩
instance : Siz Tryd.prog 130 1 := ⟨Tryd.sizeOf130⟩
instance : Agg Tryd.prog 130 true := ⟨Tryd.isAgg130⟩
instance : Zer Tryd.prog 130 (.agg #[.string ⟨#[]⟩]) := ⟨Tryd.zeroValue130⟩
instance : Inf Tryd.prog 130 1 16 (.agg #[.string ⟨#[]⟩]) := ⟨inf_of (by kernel_rfl)⟩
instance : Plc Tryd.prog 130 [(0, 1)] := ⟨⟨_, Tryd.runUnderlying130, fun w => by simp [Tryd.sizeOf9]⟩⟩
instance : Fld Tryd.prog 130 0 0 := ⟨fun w a => by simp [Instr.fieldAt, Instr.sureAddr, fieldPlace, Tryd.runUnderlying130, Tryd.sizeOf9]⟩
instance : Cel Tryd.prog 131 1 := ⟨by kernel_rfl⟩
instance : Siz Tryd.prog 131 1 := ⟨Tryd.sizeOf131⟩
instance : Agg Tryd.prog 131 true := ⟨Tryd.isAgg131⟩
instance : Zer Tryd.prog 131 (.agg #[.string ⟨#[]⟩]) := ⟨Tryd.zeroValue131⟩
instance : Inf Tryd.prog 131 1 16 (.agg #[.string ⟨#[]⟩]) := ⟨inf_of (by kernel_rfl)⟩
instance : Plc Tryd.prog 131 [(0, 1)] := ⟨⟨_, Tryd.runUnderlying131, fun w => by simp [Tryd.sizeOf9]⟩⟩
instance : Fld Tryd.prog 131 0 0 := ⟨fun w a => by simp [Instr.fieldAt, Instr.sureAddr, fieldPlace, Tryd.runUnderlying131, Tryd.sizeOf9]⟩
instance : Und Tryd.prog 132 (.int .u64) := ⟨Tryd.underlying132⟩
instance : Cel Tryd.prog 132 1 := ⟨by kernel_rfl⟩
instance : Siz Tryd.prog 132 1 := ⟨Tryd.sizeOf132⟩
instance : Agg Tryd.prog 132 false := ⟨Tryd.isAgg132⟩
instance : Zer Tryd.prog 132 (.int .u64 0) := ⟨Tryd.zeroValue132⟩
instance : Inf Tryd.prog 132 1 8 (.int .u64 0) := ⟨inf_of (by kernel_rfl)⟩
instance : Cel Tryd.prog 133 1 := ⟨by kernel_rfl⟩
instance : Siz Tryd.prog 133 1 := ⟨Tryd.sizeOf133⟩
instance : Agg Tryd.prog 133 false := ⟨Tryd.isAgg133⟩
instance : Zer Tryd.prog 133 (.nilFunc) := ⟨Tryd.zeroValue133⟩
instance : Inf Tryd.prog 133 1 8 (.nilFunc) := ⟨inf_of (by kernel_rfl)⟩
instance : Cel Tryd.prog 134 1 := ⟨by kernel_rfl⟩
instance : Siz Tryd.prog 134 1 := ⟨Tryd.sizeOf134⟩
instance : Agg Tryd.prog 134 false := ⟨Tryd.isAgg134⟩
instance : Zer Tryd.prog 134 (.nilFunc) := ⟨Tryd.zeroValue134⟩
instance : Inf Tryd.prog 134 1 8 (.nilFunc) := ⟨inf_of (by kernel_rfl)⟩
instance : Cel Tryd.prog 135 1 := ⟨by kernel_rfl⟩
instance : Siz Tryd.prog 135 1 := ⟨Tryd.sizeOf135⟩
instance : Agg Tryd.prog 135 false := ⟨Tryd.isAgg135⟩
instance : Zer Tryd.prog 135 (.nilFunc) := ⟨Tryd.zeroValue135⟩
instance : Inf Tryd.prog 135 1 8 (.nilFunc) := ⟨inf_of (by kernel_rfl)⟩
instance : Und Tryd.prog 136 (.pointer 3) := ⟨Tryd.underlying136⟩
instance : Cel Tryd.prog 136 1 := ⟨by kernel_rfl⟩
instance : Siz Tryd.prog 136 1 := ⟨Tryd.sizeOf136⟩
instance : Agg Tryd.prog 136 false := ⟨Tryd.isAgg136⟩
instance : Zer Tryd.prog 136 (.pointer none) := ⟨Tryd.zeroValue136⟩
instance : Inf Tryd.prog 136 1 8 (.pointer none) := ⟨inf_of (by kernel_rfl)⟩
instance : Cel Tryd.prog 137 1 := ⟨by kernel_rfl⟩
instance : Siz Tryd.prog 137 1 := ⟨Tryd.sizeOf137⟩
instance : Agg Tryd.prog 137 false := ⟨Tryd.isAgg137⟩
instance : Zer Tryd.prog 137 (.nilFunc) := ⟨Tryd.zeroValue137⟩
instance : Inf Tryd.prog 137 1 8 (.nilFunc) := ⟨inf_of (by kernel_rfl)⟩
instance : Und Tryd.prog 138 (.array 32 5) := ⟨Tryd.underlying138⟩
instance : Cel Tryd.prog 138 32 := ⟨by kernel_rfl⟩
instance : Siz Tryd.prog 138 32 := ⟨Tryd.sizeOf138⟩
instance : Agg Tryd.prog 138 true := ⟨Tryd.isAgg138⟩
instance : Zer Tryd.prog 138 (.agg #[.int .u8 0, .int .u8 0, .int .u8 0, .int .u8 0, .int .u8 0, .int .u8 0, .int .u8 0, .int .u8 0, .int .u8 0, .int .u8 0, .int .u8 0, .int .u8 0, .int .u8 0, .int .u8 0, .int .u8 0, .int .u8 0, .int .u8 0, .int .u8 0, .int .u8 0, .int .u8 0, .int .u8 0, .int .u8 0, .int .u8 0, .int .u8 0, .int .u8 0, .int .u8 0, .int .u8 0, .int .u8 0, .int .u8 0, .int .u8 0, .int .u8 0, .int .u8 0]) := ⟨Tryd.zeroValue138⟩
instance : Inf Tryd.prog 138 32 32 (.agg #[.int .u8 0, .int .u8 0, .int .u8 0, .int .u8 0, .int .u8 0, .int .u8 0, .int .u8 0, .int .u8 0, .int .u8 0, .int .u8 0, .int .u8 0, .int .u8 0, .int .u8 0, .int .u8 0, .int .u8 0, .int .u8 0, .int .u8 0, .int .u8 0, .int .u8 0, .int .u8 0, .int .u8 0, .int .u8 0, .int .u8 0, .int .u8 0, .int .u8 0, .int .u8 0, .int .u8 0, .int .u8 0, .int .u8 0, .int .u8 0, .int .u8 0, .int .u8 0]) := ⟨inf_of (by kernel_rfl)⟩
instance : Und Tryd.prog 139 (.array 64 5) := ⟨Tryd.underlying139⟩
instance : Cel Tryd.prog 139 64 := ⟨by kernel_rfl⟩
instance : Siz Tryd.prog 139 64 := ⟨Tryd.sizeOf139⟩
instance : Agg Tryd.prog 139 true := ⟨Tryd.isAgg139⟩
instance : Und Tryd.prog 140 (.pointer 132) := ⟨Tryd.underlying140⟩
instance : Cel Tryd.prog 140 1 := ⟨by kernel_rfl⟩
instance : Siz Tryd.prog 140 1 := ⟨Tryd.sizeOf140⟩
instance : Agg Tryd.prog 140 false := ⟨Tryd.isAgg140⟩
instance : Zer Tryd.prog 140 (.pointer none) := ⟨Tryd.zeroValue140⟩
instance : Inf Tryd.prog 140 1 8 (.pointer none) := ⟨inf_of (by kernel_rfl)⟩
instance : Cel Tryd.prog 141 1 := ⟨by kernel_rfl⟩
instance : Siz Tryd.prog 141 1 := ⟨Tryd.sizeOf141⟩
instance : Cel Tryd.prog 142 1 := ⟨by kernel_rfl⟩
instance : Siz Tryd.prog 142 1 := ⟨Tryd.sizeOf142⟩
instance : Agg Tryd.prog 142 false := ⟨Tryd.isAgg142⟩
instance : Zer Tryd.prog 142 (.nilFunc) := ⟨Tryd.zeroValue142⟩
instance : Inf Tryd.prog 142 1 8 (.nilFunc) := ⟨inf_of (by kernel_rfl)⟩
instance : Cel Tryd.prog 143 4 := ⟨by kernel_rfl⟩
instance : Siz Tryd.prog 143 4 := ⟨Tryd.sizeOf143⟩
instance : Agg Tryd.prog 143 true := ⟨Tryd.isAgg143⟩
instance : Zer Tryd.prog 143 (.agg #[.pointer none, .pointer none, .pointer none, .string ⟨#[]⟩]) := ⟨Tryd.zeroValue143⟩
instance : Inf Tryd.prog 143 4 40 (.agg #[.pointer none, .pointer none, .pointer none, .string ⟨#[]⟩]) := ⟨inf_of (by kernel_rfl)⟩
instance : Plc Tryd.prog 143 [(0, 1), (1, 1), (2, 1), (3, 1)] := ⟨⟨_, Tryd.runUnderlying143, fun w => by simp [Tryd.sizeOf17, Tryd.sizeOf9]⟩⟩
instance : Fld Tryd.prog 143 0 0 := ⟨fun w a => by simp [Instr.fieldAt, Instr.sureAddr, fieldPlace, Tryd.runUnderlying143, Tryd.sizeOf17]⟩
instance : Fld Tryd.prog 143 1 1 := ⟨fun w a => by simp [Instr.fieldAt, Instr.sureAddr, fieldPlace, Tryd.runUnderlying143, Tryd.sizeOf17]⟩
instance : Fld Tryd.prog 143 2 2 := ⟨fun w a => by simp [Instr.fieldAt, Instr.sureAddr, fieldPlace, Tryd.runUnderlying143, Tryd.sizeOf17]⟩
instance : Fld Tryd.prog 143 3 3 := ⟨fun w a => by simp [Instr.fieldAt, Instr.sureAddr, fieldPlace, Tryd.runUnderlying143, Tryd.sizeOf9]⟩
instance : Cel Tryd.prog 144 4 := ⟨by kernel_rfl⟩
instance : Siz Tryd.prog 144 4 := ⟨Tryd.sizeOf144⟩
instance : Agg Tryd.prog 144 true := ⟨Tryd.isAgg144⟩
instance : Zer Tryd.prog 144 (.agg #[.pointer none, .pointer none, .pointer none, .string ⟨#[]⟩]) := ⟨Tryd.zeroValue144⟩
instance : Inf Tryd.prog 144 4 40 (.agg #[.pointer none, .pointer none, .pointer none, .string ⟨#[]⟩]) := ⟨inf_of (by kernel_rfl)⟩
instance : Plc Tryd.prog 144 [(0, 1), (1, 1), (2, 1), (3, 1)] := ⟨⟨_, Tryd.runUnderlying144, fun w => by simp [Tryd.sizeOf17, Tryd.sizeOf9]⟩⟩
instance : Fld Tryd.prog 144 0 0 := ⟨fun w a => by simp [Instr.fieldAt, Instr.sureAddr, fieldPlace, Tryd.runUnderlying144, Tryd.sizeOf17]⟩
instance : Fld Tryd.prog 144 1 1 := ⟨fun w a => by simp [Instr.fieldAt, Instr.sureAddr, fieldPlace, Tryd.runUnderlying144, Tryd.sizeOf17]⟩
instance : Fld Tryd.prog 144 2 2 := ⟨fun w a => by simp [Instr.fieldAt, Instr.sureAddr, fieldPlace, Tryd.runUnderlying144, Tryd.sizeOf17]⟩
instance : Fld Tryd.prog 144 3 3 := ⟨fun w a => by simp [Instr.fieldAt, Instr.sureAddr, fieldPlace, Tryd.runUnderlying144, Tryd.sizeOf9]⟩
instance : Und Tryd.prog 145 (.array 0 16) := ⟨Tryd.underlying145⟩
instance : Cel Tryd.prog 145 0 := ⟨by kernel_rfl⟩
instance : Siz Tryd.prog 145 0 := ⟨Tryd.sizeOf145⟩
instance : Agg Tryd.prog 145 true := ⟨Tryd.isAgg145⟩
instance : Zer Tryd.prog 145 (.agg #[]) := ⟨Tryd.zeroValue145⟩
instance : Inf Tryd.prog 145 0 0 (.agg #[]) := ⟨inf_of (by kernel_rfl)⟩
instance : Cel Tryd.prog 146 0 := ⟨by kernel_rfl⟩
instance : Siz Tryd.prog 146 0 := ⟨Tryd.sizeOf146⟩
instance : Agg Tryd.prog 146 true := ⟨Tryd.isAgg146⟩
instance : Zer Tryd.prog 146 (.agg #[]) := ⟨Tryd.zeroValue146⟩
instance : Inf Tryd.prog 146 0 0 (.agg #[]) := ⟨inf_of (by kernel_rfl)⟩
instance : Plc Tryd.prog 146 [(0, 0)] := ⟨⟨_, Tryd.runUnderlying146, fun w => by simp [Tryd.sizeOf145]⟩⟩
instance : Cel Tryd.prog 147 0 := ⟨by kernel_rfl⟩
instance : Siz Tryd.prog 147 0 := ⟨Tryd.sizeOf147⟩
instance : Agg Tryd.prog 147 true := ⟨Tryd.isAgg147⟩
instance : Zer Tryd.prog 147 (.agg #[]) := ⟨Tryd.zeroValue147⟩
instance : Inf Tryd.prog 147 0 0 (.agg #[]) := ⟨inf_of (by kernel_rfl)⟩
instance : Plc Tryd.prog 147 [(0, 0)] := ⟨⟨_, Tryd.runUnderlying147, fun w => by simp [Tryd.sizeOf145]⟩⟩
instance : Cel Tryd.prog 148 1 := ⟨by kernel_rfl⟩
instance : Siz Tryd.prog 148 1 := ⟨Tryd.sizeOf148⟩
instance : Agg Tryd.prog 148 false := ⟨Tryd.isAgg148⟩
instance : Zer Tryd.prog 148 (.nilFunc) := ⟨Tryd.zeroValue148⟩
instance : Inf Tryd.prog 148 1 8 (.nilFunc) := ⟨inf_of (by kernel_rfl)⟩
instance : Und Tryd.prog 149 (.int .u8) := ⟨Tryd.underlying149⟩
instance : Cel Tryd.prog 149 1 := ⟨by kernel_rfl⟩
instance : Siz Tryd.prog 149 1 := ⟨Tryd.sizeOf149⟩
instance : Agg Tryd.prog 149 false := ⟨Tryd.isAgg149⟩
instance : Zer Tryd.prog 149 (.int .u8 0) := ⟨Tryd.zeroValue149⟩
instance : Inf Tryd.prog 149 1 1 (.int .u8 0) := ⟨inf_of (by kernel_rfl)⟩
instance : Und Tryd.prog 150 (.int .u8) := ⟨Tryd.underlying150⟩
instance : Cel Tryd.prog 150 1 := ⟨by kernel_rfl⟩
instance : Siz Tryd.prog 150 1 := ⟨Tryd.sizeOf150⟩
instance : Agg Tryd.prog 150 false := ⟨Tryd.isAgg150⟩
instance : Zer Tryd.prog 150 (.int .u8 0) := ⟨Tryd.zeroValue150⟩
instance : Inf Tryd.prog 150 1 1 (.int .u8 0) := ⟨inf_of (by kernel_rfl)⟩
instance : Cel Tryd.prog 151 1 := ⟨by kernel_rfl⟩
instance : Siz Tryd.prog 151 1 := ⟨Tryd.sizeOf151⟩
instance : Agg Tryd.prog 151 false := ⟨Tryd.isAgg151⟩
instance : Zer Tryd.prog 151 (.nilFunc) := ⟨Tryd.zeroValue151⟩
instance : Inf Tryd.prog 151 1 8 (.nilFunc) := ⟨inf_of (by kernel_rfl)⟩
instance : Und Tryd.prog 152 (.int .i32) := ⟨Tryd.underlying152⟩
instance : Cel Tryd.prog 152 1 := ⟨by kernel_rfl⟩
instance : Siz Tryd.prog 152 1 := ⟨Tryd.sizeOf152⟩
instance : Agg Tryd.prog 152 false := ⟨Tryd.isAgg152⟩
instance : Zer Tryd.prog 152 (.int .i32 0) := ⟨Tryd.zeroValue152⟩
instance : Inf Tryd.prog 152 1 4 (.int .i32 0) := ⟨inf_of (by kernel_rfl)⟩
instance : Und Tryd.prog 153 (.int .i32) := ⟨Tryd.underlying153⟩
instance : Cel Tryd.prog 153 1 := ⟨by kernel_rfl⟩
instance : Siz Tryd.prog 153 1 := ⟨Tryd.sizeOf153⟩
instance : Agg Tryd.prog 153 false := ⟨Tryd.isAgg153⟩
instance : Zer Tryd.prog 153 (.int .i32 0) := ⟨Tryd.zeroValue153⟩
instance : Inf Tryd.prog 153 1 4 (.int .i32 0) := ⟨inf_of (by kernel_rfl)⟩
instance : Cel Tryd.prog 154 11 := ⟨by kernel_rfl⟩
instance : Siz Tryd.prog 154 11 := ⟨Tryd.sizeOf154⟩
instance : Agg Tryd.prog 154 true := ⟨Tryd.isAgg154⟩
instance : Zer Tryd.prog 154 (.agg #[.int .u64 0, .int .u64 0, .int .u32 0, .int .u8 0, .int .u8 0, .int .u8 0, .int .u8 0, .nilFunc, .pointer none, .int .i32 0, .int .i32 0]) := ⟨Tryd.zeroValue154⟩
instance : Inf Tryd.prog 154 11 48 (.agg #[.int .u64 0, .int .u64 0, .int .u32 0, .int .u8 0, .int .u8 0, .int .u8 0, .int .u8 0, .nilFunc, .pointer none, .int .i32 0, .int .i32 0]) := ⟨inf_of (by kernel_rfl)⟩
instance : Plc Tryd.prog 154 [(0, 1), (1, 1), (2, 1), (3, 1), (4, 1), (5, 1), (6, 1), (7, 1), (8, 1), (9, 1), (10, 1)] := ⟨⟨_, Tryd.runUnderlying154, fun w => by simp [Tryd.sizeOf105, Tryd.sizeOf12, Tryd.sizeOf149, Tryd.sizeOf150, Tryd.sizeOf151, Tryd.sizeOf152, Tryd.sizeOf153, Tryd.sizeOf5, Tryd.sizeOf68]⟩⟩
instance : Fld Tryd.prog 154 0 0 := ⟨fun w a => by simp [Instr.fieldAt, Instr.sureAddr, fieldPlace, Tryd.runUnderlying154, Tryd.sizeOf12]⟩
instance : Fld Tryd.prog 154 1 1 := ⟨fun w a => by simp [Instr.fieldAt, Instr.sureAddr, fieldPlace, Tryd.runUnderlying154, Tryd.sizeOf12]⟩
instance : Fld Tryd.prog 154 2 2 := ⟨fun w a => by simp [Instr.fieldAt, Instr.sureAddr, fieldPlace, Tryd.runUnderlying154, Tryd.sizeOf105]⟩
instance : Fld Tryd.prog 154 3 3 := ⟨fun w a => by simp [Instr.fieldAt, Instr.sureAddr, fieldPlace, Tryd.runUnderlying154, Tryd.sizeOf149]⟩
instance : Fld Tryd.prog 154 4 4 := ⟨fun w a => by simp [Instr.fieldAt, Instr.sureAddr, fieldPlace, Tryd.runUnderlying154, Tryd.sizeOf5]⟩
instance : Fld Tryd.prog 154 5 5 := ⟨fun w a => by simp [Instr.fieldAt, Instr.sureAddr, fieldPlace, Tryd.runUnderlying154, Tryd.sizeOf5]⟩
instance : Fld Tryd.prog 154 6 6 := ⟨fun w a => by simp [Instr.fieldAt, Instr.sureAddr, fieldPlace, Tryd.runUnderlying154, Tryd.sizeOf150]⟩
instance : Fld Tryd.prog 154 7 7 := ⟨fun w a => by simp [Instr.fieldAt, Instr.sureAddr, fieldPlace, Tryd.runUnderlying154, Tryd.sizeOf151]⟩
instance : Fld Tryd.prog 154 8 8 := ⟨fun w a => by simp [Instr.fieldAt, Instr.sureAddr, fieldPlace, Tryd.runUnderlying154, Tryd.sizeOf68]⟩
instance : Fld Tryd.prog 154 9 9 := ⟨fun w a => by simp [Instr.fieldAt, Instr.sureAddr, fieldPlace, Tryd.runUnderlying154, Tryd.sizeOf152]⟩
instance : Fld Tryd.prog 154 10 10 := ⟨fun w a => by simp [Instr.fieldAt, Instr.sureAddr, fieldPlace, Tryd.runUnderlying154, Tryd.sizeOf153]⟩
instance : Cel Tryd.prog 155 11 := ⟨by kernel_rfl⟩
instance : Siz Tryd.prog 155 11 := ⟨Tryd.sizeOf155⟩
instance : Agg Tryd.prog 155 true := ⟨Tryd.isAgg155⟩
instance : Zer Tryd.prog 155 (.agg #[.int .u64 0, .int .u64 0, .int .u32 0, .int .u8 0, .int .u8 0, .int .u8 0, .int .u8 0, .nilFunc, .pointer none, .int .i32 0, .int .i32 0]) := ⟨Tryd.zeroValue155⟩
instance : Inf Tryd.prog 155 11 48 (.agg #[.int .u64 0, .int .u64 0, .int .u32 0, .int .u8 0, .int .u8 0, .int .u8 0, .int .u8 0, .nilFunc, .pointer none, .int .i32 0, .int .i32 0]) := ⟨inf_of (by kernel_rfl)⟩
instance : Plc Tryd.prog 155 [(0, 1), (1, 1), (2, 1), (3, 1), (4, 1), (5, 1), (6, 1), (7, 1), (8, 1), (9, 1), (10, 1)] := ⟨⟨_, Tryd.runUnderlying155, fun w => by simp [Tryd.sizeOf105, Tryd.sizeOf12, Tryd.sizeOf149, Tryd.sizeOf150, Tryd.sizeOf151, Tryd.sizeOf152, Tryd.sizeOf153, Tryd.sizeOf5, Tryd.sizeOf68]⟩⟩
instance : Fld Tryd.prog 155 0 0 := ⟨fun w a => by simp [Instr.fieldAt, Instr.sureAddr, fieldPlace, Tryd.runUnderlying155, Tryd.sizeOf12]⟩
instance : Fld Tryd.prog 155 1 1 := ⟨fun w a => by simp [Instr.fieldAt, Instr.sureAddr, fieldPlace, Tryd.runUnderlying155, Tryd.sizeOf12]⟩
instance : Fld Tryd.prog 155 2 2 := ⟨fun w a => by simp [Instr.fieldAt, Instr.sureAddr, fieldPlace, Tryd.runUnderlying155, Tryd.sizeOf105]⟩
instance : Fld Tryd.prog 155 3 3 := ⟨fun w a => by simp [Instr.fieldAt, Instr.sureAddr, fieldPlace, Tryd.runUnderlying155, Tryd.sizeOf149]⟩
instance : Fld Tryd.prog 155 4 4 := ⟨fun w a => by simp [Instr.fieldAt, Instr.sureAddr, fieldPlace, Tryd.runUnderlying155, Tryd.sizeOf5]⟩
instance : Fld Tryd.prog 155 5 5 := ⟨fun w a => by simp [Instr.fieldAt, Instr.sureAddr, fieldPlace, Tryd.runUnderlying155, Tryd.sizeOf5]⟩
instance : Fld Tryd.prog 155 6 6 := ⟨fun w a => by simp [Instr.fieldAt, Instr.sureAddr, fieldPlace, Tryd.runUnderlying155, Tryd.sizeOf150]⟩
instance : Fld Tryd.prog 155 7 7 := ⟨fun w a => by simp [Instr.fieldAt, Instr.sureAddr, fieldPlace, Tryd.runUnderlying155, Tryd.sizeOf151]⟩
instance : Fld Tryd.prog 155 8 8 := ⟨fun w a => by simp [Instr.fieldAt, Instr.sureAddr, fieldPlace, Tryd.runUnderlying155, Tryd.sizeOf68]⟩
instance : Fld Tryd.prog 155 9 9 := ⟨fun w a => by simp [Instr.fieldAt, Instr.sureAddr, fieldPlace, Tryd.runUnderlying155, Tryd.sizeOf152]⟩
instance : Fld Tryd.prog 155 10 10 := ⟨fun w a => by simp [Instr.fieldAt, Instr.sureAddr, fieldPlace, Tryd.runUnderlying155, Tryd.sizeOf153]⟩
instance : Mix Tryd.prog := ⟨by decide⟩
end Go.Proofs
