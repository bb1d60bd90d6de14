/- The facts on a seat's types, as instances of the abstract logic's classes. No condition. -/
import Derived.Test.YtpfalehodcbnbaaDoorOpen
import Derived.Test.YtpfalehodcbnbaaDoorOps17
import Derived.Test.YtpfalehodcbnbaaDoorProg
namespace Go.Proofs
open Go.AL
instance : Cel Tryd.prog 0 1 := ⟨by kernel_rfl⟩
instance : Siz Tryd.prog 0 1 := ⟨Tryd.sizeOf0⟩
instance : Cel Tryd.prog 1 1 := ⟨by kernel_rfl⟩
instance : Siz Tryd.prog 1 1 := ⟨Tryd.sizeOf1⟩
instance : Agg Tryd.prog 1 false := ⟨Tryd.isAgg1⟩
instance : Zer Tryd.prog 1 (.nilFunc) := ⟨Tryd.zeroValue1⟩
instance : Inf Tryd.prog 1 1 8 (.nilFunc) := ⟨inf_of (by kernel_rfl)⟩
instance : Und Tryd.prog 2 (.int .i64) := ⟨Tryd.underlying2⟩
instance : Cel Tryd.prog 2 1 := ⟨by kernel_rfl⟩
instance : Siz Tryd.prog 2 1 := ⟨Tryd.sizeOf2⟩
instance : Agg Tryd.prog 2 false := ⟨Tryd.isAgg2⟩
instance : Zer Tryd.prog 2 (.int .i64 0) := ⟨Tryd.zeroValue2⟩
instance : Inf Tryd.prog 2 1 8 (.int .i64 0) := ⟨inf_of (by kernel_rfl)⟩
instance : Und Tryd.prog 3 (.int .i64) := ⟨Tryd.underlying3⟩
instance : Cel Tryd.prog 3 1 := ⟨by kernel_rfl⟩
instance : Siz Tryd.prog 3 1 := ⟨Tryd.sizeOf3⟩
instance : Agg Tryd.prog 3 false := ⟨Tryd.isAgg3⟩
instance : Zer Tryd.prog 3 (.int .i64 0) := ⟨Tryd.zeroValue3⟩
instance : Inf Tryd.prog 3 1 8 (.int .i64 0) := ⟨inf_of (by kernel_rfl)⟩
instance : Und Tryd.prog 4 .bool := ⟨Tryd.underlying4⟩
instance : Cel Tryd.prog 4 1 := ⟨by kernel_rfl⟩
instance : Siz Tryd.prog 4 1 := ⟨Tryd.sizeOf4⟩
instance : Agg Tryd.prog 4 false := ⟨Tryd.isAgg4⟩
instance : Zer Tryd.prog 4 (.bool false) := ⟨Tryd.zeroValue4⟩
instance : Inf Tryd.prog 4 1 1 (.bool false) := ⟨inf_of (by kernel_rfl)⟩
instance : Und Tryd.prog 5 (.int .u8) := ⟨Tryd.underlying5⟩
instance : Cel Tryd.prog 5 1 := ⟨by kernel_rfl⟩
instance : Siz Tryd.prog 5 1 := ⟨Tryd.sizeOf5⟩
instance : Agg Tryd.prog 5 false := ⟨Tryd.isAgg5⟩
instance : Zer Tryd.prog 5 (.int .u8 0) := ⟨Tryd.zeroValue5⟩
instance : Inf Tryd.prog 5 1 1 (.int .u8 0) := ⟨inf_of (by kernel_rfl)⟩
instance : Und Tryd.prog 6 (.int .u8) := ⟨Tryd.underlying6⟩
instance : Cel Tryd.prog 6 1 := ⟨by kernel_rfl⟩
instance : Siz Tryd.prog 6 1 := ⟨Tryd.sizeOf6⟩
instance : Agg Tryd.prog 6 false := ⟨Tryd.isAgg6⟩
instance : Zer Tryd.prog 6 (.int .u8 0) := ⟨Tryd.zeroValue6⟩
instance : Inf Tryd.prog 6 1 1 (.int .u8 0) := ⟨inf_of (by kernel_rfl)⟩
instance : Cel Tryd.prog 7 4 := ⟨by kernel_rfl⟩
instance : Siz Tryd.prog 7 4 := ⟨Tryd.sizeOf7⟩
instance : Agg Tryd.prog 7 true := ⟨Tryd.isAgg7⟩
instance : Zer Tryd.prog 7 (.agg #[.int .i64 0, .int .i64 0, .bool false, .int .u8 0]) := ⟨Tryd.zeroValue7⟩
instance : Inf Tryd.prog 7 4 24 (.agg #[.int .i64 0, .int .i64 0, .bool false, .int .u8 0]) := ⟨inf_of (by kernel_rfl)⟩
instance : Plc Tryd.prog 7 [(0, 1), (1, 1), (2, 1), (3, 1)] := ⟨⟨_, Tryd.runUnderlying7, fun w => by simp [Tryd.sizeOf2, Tryd.sizeOf3, Tryd.sizeOf4, Tryd.sizeOf6]⟩⟩
instance : Fld Tryd.prog 7 0 0 := ⟨fun w a => by simp [Instr.fieldAt, Instr.sureAddr, fieldPlace, Tryd.runUnderlying7, Tryd.sizeOf2]⟩
instance : Fld Tryd.prog 7 1 1 := ⟨fun w a => by simp [Instr.fieldAt, Instr.sureAddr, fieldPlace, Tryd.runUnderlying7, Tryd.sizeOf3]⟩
instance : Fld Tryd.prog 7 2 2 := ⟨fun w a => by simp [Instr.fieldAt, Instr.sureAddr, fieldPlace, Tryd.runUnderlying7, Tryd.sizeOf4]⟩
instance : Fld Tryd.prog 7 3 3 := ⟨fun w a => by simp [Instr.fieldAt, Instr.sureAddr, fieldPlace, Tryd.runUnderlying7, Tryd.sizeOf6]⟩
instance : Cel Tryd.prog 8 4 := ⟨by kernel_rfl⟩
instance : Siz Tryd.prog 8 4 := ⟨Tryd.sizeOf8⟩
instance : Agg Tryd.prog 8 true := ⟨Tryd.isAgg8⟩
instance : Zer Tryd.prog 8 (.agg #[.int .i64 0, .int .i64 0, .bool false, .int .u8 0]) := ⟨Tryd.zeroValue8⟩
instance : Inf Tryd.prog 8 4 24 (.agg #[.int .i64 0, .int .i64 0, .bool false, .int .u8 0]) := ⟨inf_of (by kernel_rfl)⟩
instance : Plc Tryd.prog 8 [(0, 1), (1, 1), (2, 1), (3, 1)] := ⟨⟨_, Tryd.runUnderlying8, fun w => by simp [Tryd.sizeOf2, Tryd.sizeOf3, Tryd.sizeOf4, Tryd.sizeOf6]⟩⟩
instance : Fld Tryd.prog 8 0 0 := ⟨fun w a => by simp [Instr.fieldAt, Instr.sureAddr, fieldPlace, Tryd.runUnderlying8, Tryd.sizeOf2]⟩
instance : Fld Tryd.prog 8 1 1 := ⟨fun w a => by simp [Instr.fieldAt, Instr.sureAddr, fieldPlace, Tryd.runUnderlying8, Tryd.sizeOf3]⟩
instance : Fld Tryd.prog 8 2 2 := ⟨fun w a => by simp [Instr.fieldAt, Instr.sureAddr, fieldPlace, Tryd.runUnderlying8, Tryd.sizeOf4]⟩
instance : Fld Tryd.prog 8 3 3 := ⟨fun w a => by simp [Instr.fieldAt, Instr.sureAddr, fieldPlace, Tryd.runUnderlying8, Tryd.sizeOf6]⟩
instance : Und Tryd.prog 9 .string := ⟨Tryd.underlying9⟩
instance : Cel Tryd.prog 9 1 := ⟨by kernel_rfl⟩
instance : Siz Tryd.prog 9 1 := ⟨Tryd.sizeOf9⟩
instance : Agg Tryd.prog 9 false := ⟨Tryd.isAgg9⟩
instance : Zer Tryd.prog 9 (.string ⟨#[]⟩) := ⟨Tryd.zeroValue9⟩
instance : Inf Tryd.prog 9 1 16 (.string ⟨#[]⟩) := ⟨inf_of (by kernel_rfl)⟩
instance : Und Tryd.prog 10 .string := ⟨Tryd.underlying10⟩
instance : Cel Tryd.prog 10 1 := ⟨by kernel_rfl⟩
instance : Siz Tryd.prog 10 1 := ⟨Tryd.sizeOf10⟩
instance : Agg Tryd.prog 10 false := ⟨Tryd.isAgg10⟩
instance : Zer Tryd.prog 10 (.string ⟨#[]⟩) := ⟨Tryd.zeroValue10⟩
instance : Inf Tryd.prog 10 1 16 (.string ⟨#[]⟩) := ⟨inf_of (by kernel_rfl)⟩
instance : Und Tryd.prog 11 .string := ⟨Tryd.underlying11⟩
instance : Cel Tryd.prog 11 1 := ⟨by kernel_rfl⟩
instance : Siz Tryd.prog 11 1 := ⟨Tryd.sizeOf11⟩
instance : Agg Tryd.prog 11 false := ⟨Tryd.isAgg11⟩
instance : Zer Tryd.prog 11 (.string ⟨#[]⟩) := ⟨Tryd.zeroValue11⟩
instance : Inf Tryd.prog 11 1 16 (.string ⟨#[]⟩) := ⟨inf_of (by kernel_rfl)⟩
instance : Und Tryd.prog 12 (.int .u64) := ⟨Tryd.underlying12⟩
instance : Cel Tryd.prog 12 1 := ⟨by kernel_rfl⟩
instance : Siz Tryd.prog 12 1 := ⟨Tryd.sizeOf12⟩
instance : Agg Tryd.prog 12 false := ⟨Tryd.isAgg12⟩
instance : Zer Tryd.prog 12 (.int .u64 0) := ⟨Tryd.zeroValue12⟩
instance : Inf Tryd.prog 12 1 8 (.int .u64 0) := ⟨inf_of (by kernel_rfl)⟩
instance : Cel Tryd.prog 13 2 := ⟨by kernel_rfl⟩
instance : Siz Tryd.prog 13 2 := ⟨Tryd.sizeOf13⟩
instance : Agg Tryd.prog 13 true := ⟨Tryd.isAgg13⟩
instance : Zer Tryd.prog 13 (.agg #[.string ⟨#[]⟩, .int .u64 0]) := ⟨Tryd.zeroValue13⟩
instance : Inf Tryd.prog 13 2 24 (.agg #[.string ⟨#[]⟩, .int .u64 0]) := ⟨inf_of (by kernel_rfl)⟩
instance : Plc Tryd.prog 13 [(0, 1), (1, 1)] := ⟨⟨_, Tryd.runUnderlying13, fun w => by simp [Tryd.sizeOf12, Tryd.sizeOf9]⟩⟩
instance : Fld Tryd.prog 13 0 0 := ⟨fun w a => by simp [Instr.fieldAt, Instr.sureAddr, fieldPlace, Tryd.runUnderlying13, Tryd.sizeOf9]⟩
instance : Fld Tryd.prog 13 1 1 := ⟨fun w a => by simp [Instr.fieldAt, Instr.sureAddr, fieldPlace, Tryd.runUnderlying13, Tryd.sizeOf12]⟩
instance : Cel Tryd.prog 14 2 := ⟨by kernel_rfl⟩
instance : Siz Tryd.prog 14 2 := ⟨Tryd.sizeOf14⟩
instance : Agg Tryd.prog 14 true := ⟨Tryd.isAgg14⟩
instance : Zer Tryd.prog 14 (.agg #[.string ⟨#[]⟩, .int .u64 0]) := ⟨Tryd.zeroValue14⟩
instance : Inf Tryd.prog 14 2 24 (.agg #[.string ⟨#[]⟩, .int .u64 0]) := ⟨inf_of (by kernel_rfl)⟩
instance : Plc Tryd.prog 14 [(0, 1), (1, 1)] := ⟨⟨_, Tryd.runUnderlying14, fun w => by simp [Tryd.sizeOf12, Tryd.sizeOf9]⟩⟩
instance : Fld Tryd.prog 14 0 0 := ⟨fun w a => by simp [Instr.fieldAt, Instr.sureAddr, fieldPlace, Tryd.runUnderlying14, Tryd.sizeOf9]⟩
instance : Fld Tryd.prog 14 1 1 := ⟨fun w a => by simp [Instr.fieldAt, Instr.sureAddr, fieldPlace, Tryd.runUnderlying14, Tryd.sizeOf12]⟩
instance : Und Tryd.prog 15 (.pointer 118) := ⟨Tryd.underlying15⟩
instance : Cel Tryd.prog 15 1 := ⟨by kernel_rfl⟩
instance : Siz Tryd.prog 15 1 := ⟨Tryd.sizeOf15⟩
instance : Agg Tryd.prog 15 false := ⟨Tryd.isAgg15⟩
instance : Zer Tryd.prog 15 (.pointer none) := ⟨Tryd.zeroValue15⟩
instance : Inf Tryd.prog 15 1 8 (.pointer none) := ⟨inf_of (by kernel_rfl)⟩
instance : Und Tryd.prog 16 (.pointer 121) := ⟨Tryd.underlying16⟩
instance : Cel Tryd.prog 16 1 := ⟨by kernel_rfl⟩
instance : Siz Tryd.prog 16 1 := ⟨Tryd.sizeOf16⟩
instance : Agg Tryd.prog 16 false := ⟨Tryd.isAgg16⟩
instance : Zer Tryd.prog 16 (.pointer none) := ⟨Tryd.zeroValue16⟩
instance : Inf Tryd.prog 16 1 8 (.pointer none) := ⟨inf_of (by kernel_rfl)⟩
instance : Und Tryd.prog 17 (.pointer 129) := ⟨Tryd.underlying17⟩
instance : Cel Tryd.prog 17 1 := ⟨by kernel_rfl⟩
instance : Siz Tryd.prog 17 1 := ⟨Tryd.sizeOf17⟩
instance : Agg Tryd.prog 17 false := ⟨Tryd.isAgg17⟩
instance : Zer Tryd.prog 17 (.pointer none) := ⟨Tryd.zeroValue17⟩
instance : Inf Tryd.prog 17 1 8 (.pointer none) := ⟨inf_of (by kernel_rfl)⟩
instance : Cel Tryd.prog 18 1 := ⟨by kernel_rfl⟩
instance : Siz Tryd.prog 18 1 := ⟨Tryd.sizeOf18⟩
instance : Agg Tryd.prog 18 true := ⟨Tryd.isAgg18⟩
instance : Zer Tryd.prog 18 (.agg #[.pointer none]) := ⟨Tryd.zeroValue18⟩
instance : Inf Tryd.prog 18 1 8 (.agg #[.pointer none]) := ⟨inf_of (by kernel_rfl)⟩
instance : Plc Tryd.prog 18 [(0, 1)] := ⟨⟨_, Tryd.runUnderlying18, fun w => by simp [Tryd.sizeOf17]⟩⟩
instance : Fld Tryd.prog 18 0 0 := ⟨fun w a => by simp [Instr.fieldAt, Instr.sureAddr, fieldPlace, Tryd.runUnderlying18, Tryd.sizeOf17]⟩
instance : Cel Tryd.prog 19 1 := ⟨by kernel_rfl⟩
instance : Siz Tryd.prog 19 1 := ⟨Tryd.sizeOf19⟩
instance : Agg Tryd.prog 19 true := ⟨Tryd.isAgg19⟩
instance : Zer Tryd.prog 19 (.agg #[.pointer none]) := ⟨Tryd.zeroValue19⟩
instance : Inf Tryd.prog 19 1 8 (.agg #[.pointer none]) := ⟨inf_of (by kernel_rfl)⟩
instance : Plc Tryd.prog 19 [(0, 1)] := ⟨⟨_, Tryd.runUnderlying19, fun w => by simp [Tryd.sizeOf17]⟩⟩
instance : Fld Tryd.prog 19 0 0 := ⟨fun w a => by simp [Instr.fieldAt, Instr.sureAddr, fieldPlace, Tryd.runUnderlying19, Tryd.sizeOf17]⟩
instance : Ifc Tryd.prog 20 := ⟨⟨_, Tryd.underlying20⟩⟩
instance : Cel Tryd.prog 20 1 := ⟨by kernel_rfl⟩
instance : Siz Tryd.prog 20 1 := ⟨Tryd.sizeOf20⟩
instance : Agg Tryd.prog 20 false := ⟨Tryd.isAgg20⟩
instance : Zer Tryd.prog 20 (.nilIface) := ⟨Tryd.zeroValue20⟩
instance : Inf Tryd.prog 20 1 16 (.nilIface) := ⟨inf_of (by kernel_rfl)⟩
instance : Und Tryd.prog 21 (.int .i32) := ⟨Tryd.underlying21⟩
instance : Cel Tryd.prog 21 1 := ⟨by kernel_rfl⟩
instance : Siz Tryd.prog 21 1 := ⟨Tryd.sizeOf21⟩
instance : Agg Tryd.prog 21 false := ⟨Tryd.isAgg21⟩
instance : Zer Tryd.prog 21 (.int .i32 0) := ⟨Tryd.zeroValue21⟩
instance : Inf Tryd.prog 21 1 4 (.int .i32 0) := ⟨inf_of (by kernel_rfl)⟩
instance : Cel Tryd.prog 22 3 := ⟨by kernel_rfl⟩
instance : Siz Tryd.prog 22 3 := ⟨Tryd.sizeOf22⟩
instance : Agg Tryd.prog 22 true := ⟨Tryd.isAgg22⟩
instance : Zer Tryd.prog 22 (.agg #[.int .i64 0, .int .i64 0, .string ⟨#[]⟩]) := ⟨Tryd.zeroValue22⟩
instance : Inf Tryd.prog 22 3 32 (.agg #[.int .i64 0, .int .i64 0, .string ⟨#[]⟩]) := ⟨inf_of (by kernel_rfl)⟩
instance : Plc Tryd.prog 22 [(0, 1), (1, 1), (2, 1)] := ⟨⟨_, Tryd.runUnderlying22, fun w => by simp [Tryd.sizeOf2, Tryd.sizeOf3, Tryd.sizeOf9]⟩⟩
instance : Fld Tryd.prog 22 0 0 := ⟨fun w a => by simp [Instr.fieldAt, Instr.sureAddr, fieldPlace, Tryd.runUnderlying22, Tryd.sizeOf3]⟩
instance : Fld Tryd.prog 22 1 1 := ⟨fun w a => by simp [Instr.fieldAt, Instr.sureAddr, fieldPlace, Tryd.runUnderlying22, Tryd.sizeOf2]⟩
instance : Fld Tryd.prog 22 2 2 := ⟨fun w a => by simp [Instr.fieldAt, Instr.sureAddr, fieldPlace, Tryd.runUnderlying22, Tryd.sizeOf9]⟩
instance : Cel Tryd.prog 23 3 := ⟨by kernel_rfl⟩
instance : Siz Tryd.prog 23 3 := ⟨Tryd.sizeOf23⟩
instance : Agg Tryd.prog 23 true := ⟨Tryd.isAgg23⟩
instance : Zer Tryd.prog 23 (.agg #[.int .i64 0, .int .i64 0, .string ⟨#[]⟩]) := ⟨Tryd.zeroValue23⟩
instance : Inf Tryd.prog 23 3 32 (.agg #[.int .i64 0, .int .i64 0, .string ⟨#[]⟩]) := ⟨inf_of (by kernel_rfl)⟩
instance : Plc Tryd.prog 23 [(0, 1), (1, 1), (2, 1)] := ⟨⟨_, Tryd.runUnderlying23, fun w => by simp [Tryd.sizeOf2, Tryd.sizeOf3, Tryd.sizeOf9]⟩⟩
instance : Fld Tryd.prog 23 0 0 := ⟨fun w a => by simp [Instr.fieldAt, Instr.sureAddr, fieldPlace, Tryd.runUnderlying23, Tryd.sizeOf3]⟩
instance : Fld Tryd.prog 23 1 1 := ⟨fun w a => by simp [Instr.fieldAt, Instr.sureAddr, fieldPlace, Tryd.runUnderlying23, Tryd.sizeOf2]⟩
instance : Fld Tryd.prog 23 2 2 := ⟨fun w a => by simp [Instr.fieldAt, Instr.sureAddr, fieldPlace, Tryd.runUnderlying23, Tryd.sizeOf9]⟩
instance : Cel Tryd.prog 24 1 := ⟨by kernel_rfl⟩
instance : Siz Tryd.prog 24 1 := ⟨Tryd.sizeOf24⟩
instance : Agg Tryd.prog 24 false := ⟨Tryd.isAgg24⟩
instance : Zer Tryd.prog 24 (.nilFunc) := ⟨Tryd.zeroValue24⟩
instance : Inf Tryd.prog 24 1 8 (.nilFunc) := ⟨inf_of (by kernel_rfl)⟩
instance : Cel Tryd.prog 25 1 := ⟨by kernel_rfl⟩
instance : Siz Tryd.prog 25 1 := ⟨Tryd.sizeOf25⟩
instance : Agg Tryd.prog 25 false := ⟨Tryd.isAgg25⟩
instance : Zer Tryd.prog 25 (.nilFunc) := ⟨Tryd.zeroValue25⟩
instance : Inf Tryd.prog 25 1 8 (.nilFunc) := ⟨inf_of (by kernel_rfl)⟩
instance : Cel Tryd.prog 26 1 := ⟨by kernel_rfl⟩
instance : Siz Tryd.prog 26 1 := ⟨Tryd.sizeOf26⟩
instance : Agg Tryd.prog 26 false := ⟨Tryd.isAgg26⟩
instance : Zer Tryd.prog 26 (.nilFunc) := ⟨Tryd.zeroValue26⟩
instance : Inf Tryd.prog 26 1 8 (.nilFunc) := ⟨inf_of (by kernel_rfl)⟩
instance : Und Tryd.prog 27 (.int .i64) := ⟨Tryd.underlying27⟩
instance : Cel Tryd.prog 27 1 := ⟨by kernel_rfl⟩
instance : Siz Tryd.prog 27 1 := ⟨Tryd.sizeOf27⟩
instance : Agg Tryd.prog 27 false := ⟨Tryd.isAgg27⟩
instance : Zer Tryd.prog 27 (.int .i64 0) := ⟨Tryd.zeroValue27⟩
instance : Inf Tryd.prog 27 1 8 (.int .i64 0) := ⟨inf_of (by kernel_rfl)⟩
instance : Cel Tryd.prog 28 1 := ⟨by kernel_rfl⟩
instance : Siz Tryd.prog 28 1 := ⟨Tryd.sizeOf28⟩
instance : Cel Tryd.prog 29 1 := ⟨by kernel_rfl⟩
instance : Siz Tryd.prog 29 1 := ⟨Tryd.sizeOf29⟩
instance : Agg Tryd.prog 29 false := ⟨Tryd.isAgg29⟩
instance : Zer Tryd.prog 29 (.nilFunc) := ⟨Tryd.zeroValue29⟩
instance : Inf Tryd.prog 29 1 8 (.nilFunc) := ⟨inf_of (by kernel_rfl)⟩
instance : Cel Tryd.prog 30 1 := ⟨by kernel_rfl⟩
instance : Siz Tryd.prog 30 1 := ⟨Tryd.sizeOf30⟩
instance : Cel Tryd.prog 31 1 := ⟨by kernel_rfl⟩
instance : Siz Tryd.prog 31 1 := ⟨Tryd.sizeOf31⟩
instance : Agg Tryd.prog 31 false := ⟨Tryd.isAgg31⟩
instance : Zer Tryd.prog 31 (.nilFunc) := ⟨Tryd.zeroValue31⟩
instance : Inf Tryd.prog 31 1 8 (.nilFunc) := ⟨inf_of (by kernel_rfl)⟩
instance : Cel Tryd.prog 32 1 := ⟨by kernel_rfl⟩
instance : Siz Tryd.prog 32 1 := ⟨Tryd.sizeOf32⟩
instance : Cel Tryd.prog 33 1 := ⟨by kernel_rfl⟩
instance : Siz Tryd.prog 33 1 := ⟨Tryd.sizeOf33⟩
instance : Agg Tryd.prog 33 false := ⟨Tryd.isAgg33⟩
instance : Zer Tryd.prog 33 (.nilFunc) := ⟨Tryd.zeroValue33⟩
instance : Inf Tryd.prog 33 1 8 (.nilFunc) := ⟨inf_of (by kernel_rfl)⟩
instance : Cel Tryd.prog 34 1 := ⟨by kernel_rfl⟩
instance : Siz Tryd.prog 34 1 := ⟨Tryd.sizeOf34⟩
instance : Cel Tryd.prog 35 1 := ⟨by kernel_rfl⟩
instance : Siz Tryd.prog 35 1 := ⟨Tryd.sizeOf35⟩
instance : Agg Tryd.prog 35 false := ⟨Tryd.isAgg35⟩
instance : Zer Tryd.prog 35 (.nilFunc) := ⟨Tryd.zeroValue35⟩
instance : Inf Tryd.prog 35 1 8 (.nilFunc) := ⟨inf_of (by kernel_rfl)⟩
instance : Cel Tryd.prog 36 1 := ⟨by kernel_rfl⟩
instance : Siz Tryd.prog 36 1 := ⟨Tryd.sizeOf36⟩
instance : Agg Tryd.prog 36 false := ⟨Tryd.isAgg36⟩
instance : Zer Tryd.prog 36 (.nilFunc) := ⟨Tryd.zeroValue36⟩
instance : Inf Tryd.prog 36 1 8 (.nilFunc) := ⟨inf_of (by kernel_rfl)⟩
instance : Cel Tryd.prog 37 1 := ⟨by kernel_rfl⟩
instance : Siz Tryd.prog 37 1 := ⟨Tryd.sizeOf37⟩
instance : Agg Tryd.prog 37 false := ⟨Tryd.isAgg37⟩
instance : Zer Tryd.prog 37 (.nilFunc) := ⟨Tryd.zeroValue37⟩
instance : Inf Tryd.prog 37 1 8 (.nilFunc) := ⟨inf_of (by kernel_rfl)⟩
instance : Cel Tryd.prog 38 1 := ⟨by kernel_rfl⟩
instance : Siz Tryd.prog 38 1 := ⟨Tryd.sizeOf38⟩
instance : Agg Tryd.prog 38 false := ⟨Tryd.isAgg38⟩
instance : Zer Tryd.prog 38 (.nilFunc) := ⟨Tryd.zeroValue38⟩
instance : Inf Tryd.prog 38 1 8 (.nilFunc) := ⟨inf_of (by kernel_rfl)⟩
instance : Cel Tryd.prog 39 1 := ⟨by kernel_rfl⟩
instance : Siz Tryd.prog 39 1 := ⟨Tryd.sizeOf39⟩
instance : Agg Tryd.prog 39 false := ⟨Tryd.isAgg39⟩
instance : Zer Tryd.prog 39 (.nilFunc) := ⟨Tryd.zeroValue39⟩
instance : Inf Tryd.prog 39 1 8 (.nilFunc) := ⟨inf_of (by kernel_rfl)⟩
instance : Cel Tryd.prog 40 1 := ⟨by kernel_rfl⟩
instance : Siz Tryd.prog 40 1 := ⟨Tryd.sizeOf40⟩
instance : Agg Tryd.prog 40 false := ⟨Tryd.isAgg40⟩
instance : Zer Tryd.prog 40 (.nilFunc) := ⟨Tryd.zeroValue40⟩
instance : Inf Tryd.prog 40 1 8 (.nilFunc) := ⟨inf_of (by kernel_rfl)⟩
instance : Cel Tryd.prog 41 1 := ⟨by kernel_rfl⟩
instance : Siz Tryd.prog 41 1 := ⟨Tryd.sizeOf41⟩
instance : Agg Tryd.prog 41 false := ⟨Tryd.isAgg41⟩
instance : Zer Tryd.prog 41 (.nilFunc) := ⟨Tryd.zeroValue41⟩
instance : Inf Tryd.prog 41 1 8 (.nilFunc) := ⟨inf_of (by kernel_rfl)⟩
instance : Cel Tryd.prog 42 1 := ⟨by kernel_rfl⟩
instance : Siz Tryd.prog 42 1 := ⟨Tryd.sizeOf42⟩
instance : Agg Tryd.prog 42 false := ⟨Tryd.isAgg42⟩
instance : Zer Tryd.prog 42 (.nilFunc) := ⟨Tryd.zeroValue42⟩
instance : Inf Tryd.prog 42 1 8 (.nilFunc) := ⟨inf_of (by kernel_rfl)⟩
instance : Cel Tryd.prog 43 1 := ⟨by kernel_rfl⟩
instance : Siz Tryd.prog 43 1 := ⟨Tryd.sizeOf43⟩
instance : Agg Tryd.prog 43 false := ⟨Tryd.isAgg43⟩
instance : Zer Tryd.prog 43 (.nilFunc) := ⟨Tryd.zeroValue43⟩
instance : Inf Tryd.prog 43 1 8 (.nilFunc) := ⟨inf_of (by kernel_rfl)⟩
instance : Und Tryd.prog 44 (.pointer 47) := ⟨Tryd.underlying44⟩
instance : Cel Tryd.prog 44 1 := ⟨by kernel_rfl⟩
instance : Siz Tryd.prog 44 1 := ⟨Tryd.sizeOf44⟩
instance : Agg Tryd.prog 44 false := ⟨Tryd.isAgg44⟩
instance : Zer Tryd.prog 44 (.pointer none) := ⟨Tryd.zeroValue44⟩
instance : Inf Tryd.prog 44 1 8 (.pointer none) := ⟨inf_of (by kernel_rfl)⟩
instance : Und Tryd.prog 45 (.slice 5) := ⟨Tryd.underlying45⟩
instance : Cel Tryd.prog 45 1 := ⟨by kernel_rfl⟩
instance : Siz Tryd.prog 45 1 := ⟨Tryd.sizeOf45⟩
instance : Agg Tryd.prog 45 false := ⟨Tryd.isAgg45⟩
instance : Zer Tryd.prog 45 (.slice none 0 0) := ⟨Tryd.zeroValue45⟩
instance : Inf Tryd.prog 45 1 24 (.slice none 0 0) := ⟨inf_of (by kernel_rfl)⟩
instance : Cel Tryd.prog 46 2 := ⟨by kernel_rfl⟩
instance : Siz Tryd.prog 46 2 := ⟨Tryd.sizeOf46⟩
instance : Agg Tryd.prog 46 true := ⟨Tryd.isAgg46⟩
instance : Zer Tryd.prog 46 (.agg #[.pointer none, .slice none 0 0]) := ⟨Tryd.zeroValue46⟩
instance : Inf Tryd.prog 46 2 32 (.agg #[.pointer none, .slice none 0 0]) := ⟨inf_of (by kernel_rfl)⟩
instance : Plc Tryd.prog 46 [(0, 1), (1, 1)] := ⟨⟨_, Tryd.runUnderlying46, fun w => by simp [Tryd.sizeOf44, Tryd.sizeOf45]⟩⟩
instance : Fld Tryd.prog 46 0 0 := ⟨fun w a => by simp [Instr.fieldAt, Instr.sureAddr, fieldPlace, Tryd.runUnderlying46, Tryd.sizeOf44]⟩
instance : Fld Tryd.prog 46 1 1 := ⟨fun w a => by simp [Instr.fieldAt, Instr.sureAddr, fieldPlace, Tryd.runUnderlying46, Tryd.sizeOf45]⟩
instance : Cel Tryd.prog 47 2 := ⟨by kernel_rfl⟩
instance : Siz Tryd.prog 47 2 := ⟨Tryd.sizeOf47⟩
instance : Agg Tryd.prog 47 true := ⟨Tryd.isAgg47⟩
instance : Zer Tryd.prog 47 (.agg #[.pointer none, .slice none 0 0]) := ⟨Tryd.zeroValue47⟩
instance : Inf Tryd.prog 47 2 32 (.agg #[.pointer none, .slice none 0 0]) := ⟨inf_of (by kernel_rfl)⟩
instance : Plc Tryd.prog 47 [(0, 1), (1, 1)] := ⟨⟨_, Tryd.runUnderlying47, fun w => by simp [Tryd.sizeOf44, Tryd.sizeOf45]⟩⟩
instance : Fld Tryd.prog 47 0 0 := ⟨fun w a => by simp [Instr.fieldAt, Instr.sureAddr, fieldPlace, Tryd.runUnderlying47, Tryd.sizeOf44]⟩
instance : Fld Tryd.prog 47 1 1 := ⟨fun w a => by simp [Instr.fieldAt, Instr.sureAddr, fieldPlace, Tryd.runUnderlying47, Tryd.sizeOf45]⟩
instance : Cel Tryd.prog 48 1 := ⟨by kernel_rfl⟩
instance : Siz Tryd.prog 48 1 := ⟨Tryd.sizeOf48⟩
instance : Agg Tryd.prog 48 false := ⟨Tryd.isAgg48⟩
instance : Zer Tryd.prog 48 (.nilFunc) := ⟨Tryd.zeroValue48⟩
instance : Inf Tryd.prog 48 1 8 (.nilFunc) := ⟨inf_of (by kernel_rfl)⟩
instance : Cel Tryd.prog 49 1 := ⟨by kernel_rfl⟩
instance : Siz Tryd.prog 49 1 := ⟨Tryd.sizeOf49⟩
instance : Agg Tryd.prog 49 false := ⟨Tryd.isAgg49⟩
instance : Zer Tryd.prog 49 (.nilFunc) := ⟨Tryd.zeroValue49⟩
instance : Inf Tryd.prog 49 1 8 (.nilFunc) := ⟨inf_of (by kernel_rfl)⟩
instance : Ifc Tryd.prog 50 := ⟨⟨_, Tryd.underlying50⟩⟩
instance : Cel Tryd.prog 50 1 := ⟨by kernel_rfl⟩
instance : Siz Tryd.prog 50 1 := ⟨Tryd.sizeOf50⟩
instance : Agg Tryd.prog 50 false := ⟨Tryd.isAgg50⟩
instance : Zer Tryd.prog 50 (.nilIface) := ⟨Tryd.zeroValue50⟩
instance : Inf Tryd.prog 50 1 16 (.nilIface) := ⟨inf_of (by kernel_rfl)⟩
instance : Ifc Tryd.prog 51 := ⟨⟨_, Tryd.underlying51⟩⟩
instance : Cel Tryd.prog 51 1 := ⟨by kernel_rfl⟩
instance : Siz Tryd.prog 51 1 := ⟨Tryd.sizeOf51⟩
instance : Agg Tryd.prog 51 false := ⟨Tryd.isAgg51⟩
instance : Zer Tryd.prog 51 (.nilIface) := ⟨Tryd.zeroValue51⟩
instance : Inf Tryd.prog 51 1 16 (.nilIface) := ⟨inf_of (by kernel_rfl)⟩
instance : Cel Tryd.prog 52 1 := ⟨by kernel_rfl⟩
instance : Siz Tryd.prog 52 1 := ⟨Tryd.sizeOf52⟩
instance : Agg Tryd.prog 52 false := ⟨Tryd.isAgg52⟩
instance : Zer Tryd.prog 52 (.nilFunc) := ⟨Tryd.zeroValue52⟩
instance : Inf Tryd.prog 52 1 8 (.nilFunc) := ⟨inf_of (by kernel_rfl)⟩
instance : Cel Tryd.prog 53 1 := ⟨by kernel_rfl⟩
instance : Siz Tryd.prog 53 1 := ⟨Tryd.sizeOf53⟩
instance : Cel Tryd.prog 54 1 := ⟨by kernel_rfl⟩
instance : Siz Tryd.prog 54 1 := ⟨Tryd.sizeOf54⟩
instance : Agg Tryd.prog 54 false := ⟨Tryd.isAgg54⟩
instance : Zer Tryd.prog 54 (.nilFunc) := ⟨Tryd.zeroValue54⟩
instance : Inf Tryd.prog 54 1 8 (.nilFunc) := ⟨inf_of (by kernel_rfl)⟩
instance : Cel Tryd.prog 55 1 := ⟨by kernel_rfl⟩
instance : Siz Tryd.prog 55 1 := ⟨Tryd.sizeOf55⟩
instance : Agg Tryd.prog 55 false := ⟨Tryd.isAgg55⟩
instance : Zer Tryd.prog 55 (.nilFunc) := ⟨Tryd.zeroValue55⟩
instance : Inf Tryd.prog 55 1 8 (.nilFunc) := ⟨inf_of (by kernel_rfl)⟩
instance : Cel Tryd.prog 56 1 := ⟨by kernel_rfl⟩
instance : Siz Tryd.prog 56 1 := ⟨Tryd.sizeOf56⟩
instance : Agg Tryd.prog 56 false := ⟨Tryd.isAgg56⟩
instance : Zer Tryd.prog 56 (.nilFunc) := ⟨Tryd.zeroValue56⟩
instance : Inf Tryd.prog 56 1 8 (.nilFunc) := ⟨inf_of (by kernel_rfl)⟩
instance : Cel Tryd.prog 57 1 := ⟨by kernel_rfl⟩
instance : Siz Tryd.prog 57 1 := ⟨Tryd.sizeOf57⟩
instance : Agg Tryd.prog 57 false := ⟨Tryd.isAgg57⟩
instance : Zer Tryd.prog 57 (.nilFunc) := ⟨Tryd.zeroValue57⟩
instance : Inf Tryd.prog 57 1 8 (.nilFunc) := ⟨inf_of (by kernel_rfl)⟩
instance : Cel Tryd.prog 58 1 := ⟨by kernel_rfl⟩
instance : Siz Tryd.prog 58 1 := ⟨Tryd.sizeOf58⟩
instance : Agg Tryd.prog 58 false := ⟨Tryd.isAgg58⟩
instance : Zer Tryd.prog 58 (.nilFunc) := ⟨Tryd.zeroValue58⟩
instance : Inf Tryd.prog 58 1 8 (.nilFunc) := ⟨inf_of (by kernel_rfl)⟩
instance : Cel Tryd.prog 59 1 := ⟨by kernel_rfl⟩
instance : Siz Tryd.prog 59 1 := ⟨Tryd.sizeOf59⟩
instance : Cel Tryd.prog 60 1 := ⟨by kernel_rfl⟩
instance : Siz Tryd.prog 60 1 := ⟨Tryd.sizeOf60⟩
instance : Agg Tryd.prog 60 false := ⟨Tryd.isAgg60⟩
instance : Zer Tryd.prog 60 (.nilFunc) := ⟨Tryd.zeroValue60⟩
instance : Inf Tryd.prog 60 1 8 (.nilFunc) := ⟨inf_of (by kernel_rfl)⟩
instance : Cel Tryd.prog 61 1 := ⟨by kernel_rfl⟩
instance : Siz Tryd.prog 61 1 := ⟨Tryd.sizeOf61⟩
instance : Cel Tryd.prog 62 1 := ⟨by kernel_rfl⟩
instance : Siz Tryd.prog 62 1 := ⟨Tryd.sizeOf62⟩
instance : Agg Tryd.prog 62 false := ⟨Tryd.isAgg62⟩
instance : Zer Tryd.prog 62 (.nilFunc) := ⟨Tryd.zeroValue62⟩
instance : Inf Tryd.prog 62 1 8 (.nilFunc) := ⟨inf_of (by kernel_rfl)⟩
instance : Cel Tryd.prog 63 1 := ⟨by kernel_rfl⟩
instance : Siz Tryd.prog 63 1 := ⟨Tryd.sizeOf63⟩
instance : Cel Tryd.prog 64 1 := ⟨by kernel_rfl⟩
instance : Siz Tryd.prog 64 1 := ⟨Tryd.sizeOf64⟩
instance : Agg Tryd.prog 64 false := ⟨Tryd.isAgg64⟩
instance : Zer Tryd.prog 64 (.nilFunc) := ⟨Tryd.zeroValue64⟩
instance : Inf Tryd.prog 64 1 8 (.nilFunc) := ⟨inf_of (by kernel_rfl)⟩
instance : Und Tryd.prog 65 (.slice 3) := ⟨Tryd.underlying65⟩
instance : Cel Tryd.prog 65 1 := ⟨by kernel_rfl⟩
instance : Siz Tryd.prog 65 1 := ⟨Tryd.sizeOf65⟩
instance : Agg Tryd.prog 65 false := ⟨Tryd.isAgg65⟩
instance : Zer Tryd.prog 65 (.slice none 0 0) := ⟨Tryd.zeroValue65⟩
instance : Inf Tryd.prog 65 1 24 (.slice none 0 0) := ⟨inf_of (by kernel_rfl)⟩
instance : Cel Tryd.prog 66 1 := ⟨by kernel_rfl⟩
instance : Siz Tryd.prog 66 1 := ⟨Tryd.sizeOf66⟩
instance : Agg Tryd.prog 66 false := ⟨Tryd.isAgg66⟩
instance : Zer Tryd.prog 66 (.nilFunc) := ⟨Tryd.zeroValue66⟩
instance : Inf Tryd.prog 66 1 8 (.nilFunc) := ⟨inf_of (by kernel_rfl)⟩
instance : Cel Tryd.prog 67 1 := ⟨by kernel_rfl⟩
instance : Siz Tryd.prog 67 1 := ⟨Tryd.sizeOf67⟩
instance : Agg Tryd.prog 67 false := ⟨Tryd.isAgg67⟩
instance : Zer Tryd.prog 67 (.nilFunc) := ⟨Tryd.zeroValue67⟩
instance : Inf Tryd.prog 67 1 8 (.nilFunc) := ⟨inf_of (by kernel_rfl)⟩
instance : Cel Tryd.prog 68 1 := ⟨by kernel_rfl⟩
instance : Siz Tryd.prog 68 1 := ⟨Tryd.sizeOf68⟩
instance : Agg Tryd.prog 68 false := ⟨Tryd.isAgg68⟩
instance : Zer Tryd.prog 68 (.nilFunc) := ⟨Tryd.zeroValue68⟩
instance : Inf Tryd.prog 68 1 8 (.nilFunc) := ⟨inf_of (by kernel_rfl)⟩
instance : Und Tryd.prog 69 (.int .u64) := ⟨Tryd.underlying69⟩
instance : Cel Tryd.prog 69 1 := ⟨by kernel_rfl⟩
instance : Siz Tryd.prog 69 1 := ⟨Tryd.sizeOf69⟩
instance : Agg Tryd.prog 69 false := ⟨Tryd.isAgg69⟩
instance : Zer Tryd.prog 69 (.int .u64 0) := ⟨Tryd.zeroValue69⟩
instance : Inf Tryd.prog 69 1 8 (.int .u64 0) := ⟨inf_of (by kernel_rfl)⟩
instance : Und Tryd.prog 70 (.pointer 5) := ⟨Tryd.underlying70⟩
instance : Cel Tryd.prog 70 1 := ⟨by kernel_rfl⟩
instance : Siz Tryd.prog 70 1 := ⟨Tryd.sizeOf70⟩
instance : Agg Tryd.prog 70 false := ⟨Tryd.isAgg70⟩
instance : Zer Tryd.prog 70 (.pointer none) := ⟨Tryd.zeroValue70⟩
instance : Inf Tryd.prog 70 1 8 (.pointer none) := ⟨inf_of (by kernel_rfl)⟩
instance : Cel Tryd.prog 71 1 := ⟨by kernel_rfl⟩
instance : Siz Tryd.prog 71 1 := ⟨Tryd.sizeOf71⟩
instance : Agg Tryd.prog 71 false := ⟨Tryd.isAgg71⟩
instance : Zer Tryd.prog 71 (.nilFunc) := ⟨Tryd.zeroValue71⟩
instance : Inf Tryd.prog 71 1 8 (.nilFunc) := ⟨inf_of (by kernel_rfl)⟩
instance : Cel Tryd.prog 72 1 := ⟨by kernel_rfl⟩
instance : Siz Tryd.prog 72 1 := ⟨Tryd.sizeOf72⟩
instance : Agg Tryd.prog 72 false := ⟨Tryd.isAgg72⟩
instance : Zer Tryd.prog 72 (.nilFunc) := ⟨Tryd.zeroValue72⟩
instance : Inf Tryd.prog 72 1 8 (.nilFunc) := ⟨inf_of (by kernel_rfl)⟩
instance : Cel Tryd.prog 73 1 := ⟨by kernel_rfl⟩
instance : Siz Tryd.prog 73 1 := ⟨Tryd.sizeOf73⟩
instance : Agg Tryd.prog 73 false := ⟨Tryd.isAgg73⟩
instance : Zer Tryd.prog 73 (.nilFunc) := ⟨Tryd.zeroValue73⟩
instance : Inf Tryd.prog 73 1 8 (.nilFunc) := ⟨inf_of (by kernel_rfl)⟩
instance : Cel Tryd.prog 74 1 := ⟨by kernel_rfl⟩
instance : Siz Tryd.prog 74 1 := ⟨Tryd.sizeOf74⟩
instance : Agg Tryd.prog 74 false := ⟨Tryd.isAgg74⟩
instance : Zer Tryd.prog 74 (.nilFunc) := ⟨Tryd.zeroValue74⟩
instance : Inf Tryd.prog 74 1 8 (.nilFunc) := ⟨inf_of (by kernel_rfl)⟩
instance : Cel Tryd.prog 75 1 := ⟨by kernel_rfl⟩
instance : Siz Tryd.prog 75 1 := ⟨Tryd.sizeOf75⟩
instance : Agg Tryd.prog 75 false := ⟨Tryd.isAgg75⟩
instance : Zer Tryd.prog 75 (.nilFunc) := ⟨Tryd.zeroValue75⟩
instance : Inf Tryd.prog 75 1 8 (.nilFunc) := ⟨inf_of (by kernel_rfl)⟩
instance : Cel Tryd.prog 76 1 := ⟨by kernel_rfl⟩
instance : Siz Tryd.prog 76 1 := ⟨Tryd.sizeOf76⟩
instance : Agg Tryd.prog 76 false := ⟨Tryd.isAgg76⟩
instance : Zer Tryd.prog 76 (.nilFunc) := ⟨Tryd.zeroValue76⟩
instance : Inf Tryd.prog 76 1 8 (.nilFunc) := ⟨inf_of (by kernel_rfl)⟩
instance : Cel Tryd.prog 77 1 := ⟨by kernel_rfl⟩
instance : Siz Tryd.prog 77 1 := ⟨Tryd.sizeOf77⟩
instance : Agg Tryd.prog 77 false := ⟨Tryd.isAgg77⟩
instance : Zer Tryd.prog 77 (.nilFunc) := ⟨Tryd.zeroValue77⟩
instance : Inf Tryd.prog 77 1 8 (.nilFunc) := ⟨inf_of (by kernel_rfl)⟩
instance : Und Tryd.prog 78 (.array 24 5) := ⟨Tryd.underlying78⟩
instance : Cel Tryd.prog 78 24 := ⟨by kernel_rfl⟩
instance : Siz Tryd.prog 78 24 := ⟨Tryd.sizeOf78⟩
instance : Agg Tryd.prog 78 true := ⟨Tryd.isAgg78⟩
instance : Zer Tryd.prog 78 (.agg #[.int .u8 0, .int .u8 0, .int .u8 0, .int .u8 0, .int .u8 0, .int .u8 0, .int .u8 0, .int .u8 0, .int .u8 0, .int .u8 0, .int .u8 0, .int .u8 0, .int .u8 0, .int .u8 0, .int .u8 0, .int .u8 0, .int .u8 0, .int .u8 0, .int .u8 0, .int .u8 0, .int .u8 0, .int .u8 0, .int .u8 0, .int .u8 0]) := ⟨Tryd.zeroValue78⟩
instance : Inf Tryd.prog 78 24 24 (.agg #[.int .u8 0, .int .u8 0, .int .u8 0, .int .u8 0, .int .u8 0, .int .u8 0, .int .u8 0, .int .u8 0, .int .u8 0, .int .u8 0, .int .u8 0, .int .u8 0, .int .u8 0, .int .u8 0, .int .u8 0, .int .u8 0, .int .u8 0, .int .u8 0, .int .u8 0, .int .u8 0, .int .u8 0, .int .u8 0, .int .u8 0, .int .u8 0]) := ⟨inf_of (by kernel_rfl)⟩
instance : Und Tryd.prog 79 (.int .u64) := ⟨Tryd.underlying79⟩
instance : Cel Tryd.prog 79 1 := ⟨by kernel_rfl⟩
instance : Siz Tryd.prog 79 1 := ⟨Tryd.sizeOf79⟩
instance : Agg Tryd.prog 79 false := ⟨Tryd.isAgg79⟩
instance : Zer Tryd.prog 79 (.int .u64 0) := ⟨Tryd.zeroValue79⟩
instance : Inf Tryd.prog 79 1 8 (.int .u64 0) := ⟨inf_of (by kernel_rfl)⟩
instance : Cel Tryd.prog 80 1 := ⟨by kernel_rfl⟩
instance : Siz Tryd.prog 80 1 := ⟨Tryd.sizeOf80⟩
instance : Agg Tryd.prog 80 false := ⟨Tryd.isAgg80⟩
instance : Zer Tryd.prog 80 (.nilFunc) := ⟨Tryd.zeroValue80⟩
instance : Inf Tryd.prog 80 1 8 (.nilFunc) := ⟨inf_of (by kernel_rfl)⟩
instance : Cel Tryd.prog 81 1 := ⟨by kernel_rfl⟩
instance : Siz Tryd.prog 81 1 := ⟨Tryd.sizeOf81⟩
instance : Agg Tryd.prog 81 false := ⟨Tryd.isAgg81⟩
instance : Zer Tryd.prog 81 (.nilFunc) := ⟨Tryd.zeroValue81⟩
instance : Inf Tryd.prog 81 1 8 (.nilFunc) := ⟨inf_of (by kernel_rfl)⟩
instance : Cel Tryd.prog 82 1 := ⟨by kernel_rfl⟩
instance : Siz Tryd.prog 82 1 := ⟨Tryd.sizeOf82⟩
instance : Cel Tryd.prog 83 1 := ⟨by kernel_rfl⟩
instance : Siz Tryd.prog 83 1 := ⟨Tryd.sizeOf83⟩
instance : Agg Tryd.prog 83 false := ⟨Tryd.isAgg83⟩
instance : Zer Tryd.prog 83 (.nilFunc) := ⟨Tryd.zeroValue83⟩
instance : Inf Tryd.prog 83 1 8 (.nilFunc) := ⟨inf_of (by kernel_rfl)⟩
instance : Und Tryd.prog 84 .unsafePointer := ⟨Tryd.underlying84⟩
instance : Cel Tryd.prog 84 1 := ⟨by kernel_rfl⟩
instance : Siz Tryd.prog 84 1 := ⟨Tryd.sizeOf84⟩
instance : Agg Tryd.prog 84 false := ⟨Tryd.isAgg84⟩
instance : Zer Tryd.prog 84 (.pointer none) := ⟨Tryd.zeroValue84⟩
instance : Inf Tryd.prog 84 1 8 (.pointer none) := ⟨inf_of (by kernel_rfl)⟩
instance : Cel Tryd.prog 85 1 := ⟨by kernel_rfl⟩
instance : Siz Tryd.prog 85 1 := ⟨Tryd.sizeOf85⟩
instance : Agg Tryd.prog 85 false := ⟨Tryd.isAgg85⟩
instance : Zer Tryd.prog 85 (.nilFunc) := ⟨Tryd.zeroValue85⟩
instance : Inf Tryd.prog 85 1 8 (.nilFunc) := ⟨inf_of (by kernel_rfl)⟩
instance : Cel Tryd.prog 86 1 := ⟨by kernel_rfl⟩
instance : Siz Tryd.prog 86 1 := ⟨Tryd.sizeOf86⟩
instance : Cel Tryd.prog 87 1 := ⟨by kernel_rfl⟩
instance : Siz Tryd.prog 87 1 := ⟨Tryd.sizeOf87⟩
instance : Agg Tryd.prog 87 false := ⟨Tryd.isAgg87⟩
instance : Zer Tryd.prog 87 (.nilFunc) := ⟨Tryd.zeroValue87⟩
instance : Inf Tryd.prog 87 1 8 (.nilFunc) := ⟨inf_of (by kernel_rfl)⟩
instance : Cel Tryd.prog 88 1 := ⟨by kernel_rfl⟩
instance : Siz Tryd.prog 88 1 := ⟨Tryd.sizeOf88⟩
instance : Agg Tryd.prog 88 false := ⟨Tryd.isAgg88⟩
instance : Zer Tryd.prog 88 (.nilFunc) := ⟨Tryd.zeroValue88⟩
instance : Inf Tryd.prog 88 1 8 (.nilFunc) := ⟨inf_of (by kernel_rfl)⟩
instance : Cel Tryd.prog 89 1 := ⟨by kernel_rfl⟩
instance : Siz Tryd.prog 89 1 := ⟨Tryd.sizeOf89⟩
instance : Cel Tryd.prog 90 1 := ⟨by kernel_rfl⟩
instance : Siz Tryd.prog 90 1 := ⟨Tryd.sizeOf90⟩
instance : Agg Tryd.prog 90 false := ⟨Tryd.isAgg90⟩
instance : Zer Tryd.prog 90 (.nilFunc) := ⟨Tryd.zeroValue90⟩
instance : Inf Tryd.prog 90 1 8 (.nilFunc) := ⟨inf_of (by kernel_rfl)⟩
instance : Cel Tryd.prog 91 1 := ⟨by kernel_rfl⟩
instance : Siz Tryd.prog 91 1 := ⟨Tryd.sizeOf91⟩
instance : Agg Tryd.prog 91 false := ⟨Tryd.isAgg91⟩
instance : Zer Tryd.prog 91 (.nilFunc) := ⟨Tryd.zeroValue91⟩
instance : Inf Tryd.prog 91 1 8 (.nilFunc) := ⟨inf_of (by kernel_rfl)⟩
instance : Cel Tryd.prog 92 1 := ⟨by kernel_rfl⟩
instance : Siz Tryd.prog 92 1 := ⟨Tryd.sizeOf92⟩
instance : Agg Tryd.prog 92 false := ⟨Tryd.isAgg92⟩
instance : Zer Tryd.prog 92 (.nilFunc) := ⟨Tryd.zeroValue92⟩
instance : Inf Tryd.prog 92 1 8 (.nilFunc) := ⟨inf_of (by kernel_rfl)⟩
instance : Und Tryd.prog 93 (.array 20 79) := ⟨Tryd.underlying93⟩
instance : Cel Tryd.prog 93 20 := ⟨by kernel_rfl⟩
instance : Siz Tryd.prog 93 20 := ⟨Tryd.sizeOf93⟩
instance : Agg Tryd.prog 93 true := ⟨Tryd.isAgg93⟩
instance : Zer Tryd.prog 93 (.agg #[.int .u64 0, .int .u64 0, .int .u64 0, .int .u64 0, .int .u64 0, .int .u64 0, .int .u64 0, .int .u64 0, .int .u64 0, .int .u64 0, .int .u64 0, .int .u64 0, .int .u64 0, .int .u64 0, .int .u64 0, .int .u64 0, .int .u64 0, .int .u64 0, .int .u64 0, .int .u64 0]) := ⟨Tryd.zeroValue93⟩
instance : Inf Tryd.prog 93 20 160 (.agg #[.int .u64 0, .int .u64 0, .int .u64 0, .int .u64 0, .int .u64 0, .int .u64 0, .int .u64 0, .int .u64 0, .int .u64 0, .int .u64 0, .int .u64 0, .int .u64 0, .int .u64 0, .int .u64 0, .int .u64 0, .int .u64 0, .int .u64 0, .int .u64 0, .int .u64 0, .int .u64 0]) := ⟨inf_of (by kernel_rfl)⟩
instance : Und Tryd.prog 94 (.int .u32) := ⟨Tryd.underlying94⟩
instance : Cel Tryd.prog 94 1 := ⟨by kernel_rfl⟩
instance : Siz Tryd.prog 94 1 := ⟨Tryd.sizeOf94⟩
instance : Agg Tryd.prog 94 false := ⟨Tryd.isAgg94⟩
instance : Zer Tryd.prog 94 (.int .u32 0) := ⟨Tryd.zeroValue94⟩
instance : Inf Tryd.prog 94 1 4 (.int .u32 0) := ⟨inf_of (by kernel_rfl)⟩
instance : Und Tryd.prog 95 (.array 65 5) := ⟨Tryd.underlying95⟩
instance : Cel Tryd.prog 95 65 := ⟨by kernel_rfl⟩
instance : Siz Tryd.prog 95 65 := ⟨Tryd.sizeOf95⟩
instance : Agg Tryd.prog 95 true := ⟨Tryd.isAgg95⟩
instance : Cel Tryd.prog 96 1 := ⟨by kernel_rfl⟩
instance : Siz Tryd.prog 96 1 := ⟨Tryd.sizeOf96⟩
instance : Agg Tryd.prog 96 false := ⟨Tryd.isAgg96⟩
instance : Zer Tryd.prog 96 (.nilFunc) := ⟨Tryd.zeroValue96⟩
instance : Inf Tryd.prog 96 1 8 (.nilFunc) := ⟨inf_of (by kernel_rfl)⟩
instance : Cel Tryd.prog 97 1 := ⟨by kernel_rfl⟩
instance : Siz Tryd.prog 97 1 := ⟨Tryd.sizeOf97⟩
instance : Agg Tryd.prog 97 false := ⟨Tryd.isAgg97⟩
instance : Zer Tryd.prog 97 (.nilFunc) := ⟨Tryd.zeroValue97⟩
instance : Inf Tryd.prog 97 1 8 (.nilFunc) := ⟨inf_of (by kernel_rfl)⟩
instance : Cel Tryd.prog 98 1 := ⟨by kernel_rfl⟩
instance : Siz Tryd.prog 98 1 := ⟨Tryd.sizeOf98⟩
instance : Agg Tryd.prog 98 false := ⟨Tryd.isAgg98⟩
instance : Zer Tryd.prog 98 (.nilFunc) := ⟨Tryd.zeroValue98⟩
instance : Inf Tryd.prog 98 1 8 (.nilFunc) := ⟨inf_of (by kernel_rfl)⟩
instance : Cel Tryd.prog 99 1 := ⟨by kernel_rfl⟩
instance : Siz Tryd.prog 99 1 := ⟨Tryd.sizeOf99⟩
instance : Agg Tryd.prog 99 false := ⟨Tryd.isAgg99⟩
instance : Zer Tryd.prog 99 (.nilFunc) := ⟨Tryd.zeroValue99⟩
instance : Inf Tryd.prog 99 1 8 (.nilFunc) := ⟨inf_of (by kernel_rfl)⟩
instance : Cel Tryd.prog 100 1 := ⟨by kernel_rfl⟩
instance : Siz Tryd.prog 100 1 := ⟨Tryd.sizeOf100⟩
instance : Agg Tryd.prog 100 false := ⟨Tryd.isAgg100⟩
instance : Zer Tryd.prog 100 (.nilFunc) := ⟨Tryd.zeroValue100⟩
instance : Inf Tryd.prog 100 1 8 (.nilFunc) := ⟨inf_of (by kernel_rfl)⟩
instance : Und Tryd.prog 101 (.int .i64) := ⟨Tryd.underlying101⟩
instance : Cel Tryd.prog 101 1 := ⟨by kernel_rfl⟩
instance : Siz Tryd.prog 101 1 := ⟨Tryd.sizeOf101⟩
instance : Agg Tryd.prog 101 false := ⟨Tryd.isAgg101⟩
instance : Zer Tryd.prog 101 (.int .i64 0) := ⟨Tryd.zeroValue101⟩
instance : Inf Tryd.prog 101 1 8 (.int .i64 0) := ⟨inf_of (by kernel_rfl)⟩
instance : Cel Tryd.prog 102 1 := ⟨by kernel_rfl⟩
instance : Siz Tryd.prog 102 1 := ⟨Tryd.sizeOf102⟩
instance : Cel Tryd.prog 103 1 := ⟨by kernel_rfl⟩
instance : Siz Tryd.prog 103 1 := ⟨Tryd.sizeOf103⟩
instance : Agg Tryd.prog 103 false := ⟨Tryd.isAgg103⟩
instance : Zer Tryd.prog 103 (.nilFunc) := ⟨Tryd.zeroValue103⟩
instance : Inf Tryd.prog 103 1 8 (.nilFunc) := ⟨inf_of (by kernel_rfl)⟩
instance : Und Tryd.prog 104 (.pointer 112) := ⟨Tryd.underlying104⟩
instance : Cel Tryd.prog 104 1 := ⟨by kernel_rfl⟩
instance : Siz Tryd.prog 104 1 := ⟨Tryd.sizeOf104⟩
instance : Agg Tryd.prog 104 false := ⟨Tryd.isAgg104⟩
instance : Zer Tryd.prog 104 (.pointer none) := ⟨Tryd.zeroValue104⟩
instance : Inf Tryd.prog 104 1 8 (.pointer none) := ⟨inf_of (by kernel_rfl)⟩
instance : Cel Tryd.prog 105 1 := ⟨by kernel_rfl⟩
instance : Siz Tryd.prog 105 1 := ⟨Tryd.sizeOf105⟩
instance : Agg Tryd.prog 105 false := ⟨Tryd.isAgg105⟩
instance : Zer Tryd.prog 105 (.nilFunc) := ⟨Tryd.zeroValue105⟩
instance : Inf Tryd.prog 105 1 8 (.nilFunc) := ⟨inf_of (by kernel_rfl)⟩
instance : Cel Tryd.prog 106 1 := ⟨by kernel_rfl⟩
instance : Siz Tryd.prog 106 1 := ⟨Tryd.sizeOf106⟩
instance : Agg Tryd.prog 106 false := ⟨Tryd.isAgg106⟩
instance : Zer Tryd.prog 106 (.nilFunc) := ⟨Tryd.zeroValue106⟩
instance : Inf Tryd.prog 106 1 8 (.nilFunc) := ⟨inf_of (by kernel_rfl)⟩
instance : Und Tryd.prog 107 (.array 32 5) := ⟨Tryd.underlying107⟩
instance : Cel Tryd.prog 107 32 := ⟨by kernel_rfl⟩
instance : Siz Tryd.prog 107 32 := ⟨Tryd.sizeOf107⟩
instance : Agg Tryd.prog 107 true := ⟨Tryd.isAgg107⟩
instance : Zer Tryd.prog 107 (.agg #[.int .u8 0, .int .u8 0, .int .u8 0, .int .u8 0, .int .u8 0, .int .u8 0, .int .u8 0, .int .u8 0, .int .u8 0, .int .u8 0, .int .u8 0, .int .u8 0, .int .u8 0, .int .u8 0, .int .u8 0, .int .u8 0, .int .u8 0, .int .u8 0, .int .u8 0, .int .u8 0, .int .u8 0, .int .u8 0, .int .u8 0, .int .u8 0, .int .u8 0, .int .u8 0, .int .u8 0, .int .u8 0, .int .u8 0, .int .u8 0, .int .u8 0, .int .u8 0]) := ⟨Tryd.zeroValue107⟩
instance : Inf Tryd.prog 107 32 32 (.agg #[.int .u8 0, .int .u8 0, .int .u8 0, .int .u8 0, .int .u8 0, .int .u8 0, .int .u8 0, .int .u8 0, .int .u8 0, .int .u8 0, .int .u8 0, .int .u8 0, .int .u8 0, .int .u8 0, .int .u8 0, .int .u8 0, .int .u8 0, .int .u8 0, .int .u8 0, .int .u8 0, .int .u8 0, .int .u8 0, .int .u8 0, .int .u8 0, .int .u8 0, .int .u8 0, .int .u8 0, .int .u8 0, .int .u8 0, .int .u8 0, .int .u8 0, .int .u8 0]) := ⟨inf_of (by kernel_rfl)⟩
instance : Und Tryd.prog 108 (.array 64 5) := ⟨Tryd.underlying108⟩
instance : Cel Tryd.prog 108 64 := ⟨by kernel_rfl⟩
instance : Siz Tryd.prog 108 64 := ⟨Tryd.sizeOf108⟩
instance : Agg Tryd.prog 108 true := ⟨Tryd.isAgg108⟩
instance : Cel Tryd.prog 109 1 := ⟨by kernel_rfl⟩
instance : Siz Tryd.prog 109 1 := ⟨Tryd.sizeOf109⟩
instance : Agg Tryd.prog 109 false := ⟨Tryd.isAgg109⟩
instance : Zer Tryd.prog 109 (.nilFunc) := ⟨Tryd.zeroValue109⟩
instance : Inf Tryd.prog 109 1 8 (.nilFunc) := ⟨inf_of (by kernel_rfl)⟩
instance : Cel Tryd.prog 110 1 := ⟨by kernel_rfl⟩
instance : Siz Tryd.prog 110 1 := ⟨Tryd.sizeOf110⟩
instance : Agg Tryd.prog 110 false := ⟨Tryd.isAgg110⟩
instance : Zer Tryd.prog 110 (.nilFunc) := ⟨Tryd.zeroValue110⟩
instance : Inf Tryd.prog 110 1 8 (.nilFunc) := ⟨inf_of (by kernel_rfl)⟩
instance : Cel Tryd.prog 111 3 := ⟨by kernel_rfl⟩
instance : Siz Tryd.prog 111 3 := ⟨Tryd.sizeOf111⟩
instance : Agg Tryd.prog 111 true := ⟨Tryd.isAgg111⟩
instance : Zer Tryd.prog 111 (.agg #[.string ⟨#[]⟩, .string ⟨#[]⟩, .nilIface]) := ⟨Tryd.zeroValue111⟩
instance : Inf Tryd.prog 111 3 48 (.agg #[.string ⟨#[]⟩, .string ⟨#[]⟩, .nilIface]) := ⟨inf_of (by kernel_rfl)⟩
instance : Plc Tryd.prog 111 [(0, 1), (1, 1), (2, 1)] := ⟨⟨_, Tryd.runUnderlying111, fun w => by simp [Tryd.sizeOf51, Tryd.sizeOf9]⟩⟩
instance : Fld Tryd.prog 111 0 0 := ⟨fun w a => by simp [Instr.fieldAt, Instr.sureAddr, fieldPlace, Tryd.runUnderlying111, Tryd.sizeOf9]⟩
instance : Fld Tryd.prog 111 1 1 := ⟨fun w a => by simp [Instr.fieldAt, Instr.sureAddr, fieldPlace, Tryd.runUnderlying111, Tryd.sizeOf9]⟩
instance : Fld Tryd.prog 111 2 2 := ⟨fun w a => by simp [Instr.fieldAt, Instr.sureAddr, fieldPlace, Tryd.runUnderlying111, Tryd.sizeOf51]⟩
instance : Cel Tryd.prog 112 3 := ⟨by kernel_rfl⟩
instance : Siz Tryd.prog 112 3 := ⟨Tryd.sizeOf112⟩
instance : Agg Tryd.prog 112 true := ⟨Tryd.isAgg112⟩
instance : Zer Tryd.prog 112 (.agg #[.string ⟨#[]⟩, .string ⟨#[]⟩, .nilIface]) := ⟨Tryd.zeroValue112⟩
instance : Inf Tryd.prog 112 3 48 (.agg #[.string ⟨#[]⟩, .string ⟨#[]⟩, .nilIface]) := ⟨inf_of (by kernel_rfl)⟩
instance : Plc Tryd.prog 112 [(0, 1), (1, 1), (2, 1)] := ⟨⟨_, Tryd.runUnderlying112, fun w => by simp [Tryd.sizeOf51, Tryd.sizeOf9]⟩⟩
instance : Fld Tryd.prog 112 0 0 := ⟨fun w a => by simp [Instr.fieldAt, Instr.sureAddr, fieldPlace, Tryd.runUnderlying112, Tryd.sizeOf9]⟩
instance : Fld Tryd.prog 112 1 1 := ⟨fun w a => by simp [Instr.fieldAt, Instr.sureAddr, fieldPlace, Tryd.runUnderlying112, Tryd.sizeOf9]⟩
instance : Fld Tryd.prog 112 2 2 := ⟨fun w a => by simp [Instr.fieldAt, Instr.sureAddr, fieldPlace, Tryd.runUnderlying112, Tryd.sizeOf51]⟩
instance : Cel Tryd.prog 113 1 := ⟨by kernel_rfl⟩
instance : Siz Tryd.prog 113 1 := ⟨Tryd.sizeOf113⟩
instance : Agg Tryd.prog 113 false := ⟨Tryd.isAgg113⟩
instance : Zer Tryd.prog 113 (.nilFunc) := ⟨Tryd.zeroValue113⟩
instance : Inf Tryd.prog 113 1 8 (.nilFunc) := ⟨inf_of (by kernel_rfl)⟩
instance : Und Tryd.prog 114 (.pointer 116) := ⟨Tryd.underlying114⟩
instance : Cel Tryd.prog 114 1 := ⟨by kernel_rfl⟩
instance : Siz Tryd.prog 114 1 := ⟨Tryd.sizeOf114⟩
instance : Agg Tryd.prog 114 false := ⟨Tryd.isAgg114⟩
instance : Zer Tryd.prog 114 (.pointer none) := ⟨Tryd.zeroValue114⟩
instance : Inf Tryd.prog 114 1 8 (.pointer none) := ⟨inf_of (by kernel_rfl)⟩
instance : Cel Tryd.prog 115 1 := ⟨by kernel_rfl⟩
instance : Siz Tryd.prog 115 1 := ⟨Tryd.sizeOf115⟩
instance : Agg Tryd.prog 115 true := ⟨Tryd.isAgg115⟩
instance : Zer Tryd.prog 115 (.agg #[.string ⟨#[]⟩]) := ⟨Tryd.zeroValue115⟩
instance : Inf Tryd.prog 115 1 16 (.agg #[.string ⟨#[]⟩]) := ⟨inf_of (by kernel_rfl)⟩
instance : Plc Tryd.prog 115 [(0, 1)] := ⟨⟨_, Tryd.runUnderlying115, fun w => by simp [Tryd.sizeOf9]⟩⟩
instance : Fld Tryd.prog 115 0 0 := ⟨fun w a => by simp [Instr.fieldAt, Instr.sureAddr, fieldPlace, Tryd.runUnderlying115, Tryd.sizeOf9]⟩
instance : Cel Tryd.prog 116 1 := ⟨by kernel_rfl⟩
instance : Siz Tryd.prog 116 1 := ⟨Tryd.sizeOf116⟩
instance : Agg Tryd.prog 116 true := ⟨Tryd.isAgg116⟩
instance : Zer Tryd.prog 116 (.agg #[.string ⟨#[]⟩]) := ⟨Tryd.zeroValue116⟩
instance : Inf Tryd.prog 116 1 16 (.agg #[.string ⟨#[]⟩]) := ⟨inf_of (by kernel_rfl)⟩
instance : Plc Tryd.prog 116 [(0, 1)] := ⟨⟨_, Tryd.runUnderlying116, fun w => by simp [Tryd.sizeOf9]⟩⟩
instance : Fld Tryd.prog 116 0 0 := ⟨fun w a => by simp [Instr.fieldAt, Instr.sureAddr, fieldPlace, Tryd.runUnderlying116, Tryd.sizeOf9]⟩
instance : Cel Tryd.prog 117 4 := ⟨by kernel_rfl⟩
instance : Siz Tryd.prog 117 4 := ⟨Tryd.sizeOf117⟩
instance : Agg Tryd.prog 117 true := ⟨Tryd.isAgg117⟩
instance : Zer Tryd.prog 117 (.agg #[.pointer none, .pointer none, .pointer none, .string ⟨#[]⟩]) := ⟨Tryd.zeroValue117⟩
instance : Inf Tryd.prog 117 4 40 (.agg #[.pointer none, .pointer none, .pointer none, .string ⟨#[]⟩]) := ⟨inf_of (by kernel_rfl)⟩
instance : Plc Tryd.prog 117 [(0, 1), (1, 1), (2, 1), (3, 1)] := ⟨⟨_, Tryd.runUnderlying117, fun w => by simp [Tryd.sizeOf17, Tryd.sizeOf9]⟩⟩
instance : Fld Tryd.prog 117 0 0 := ⟨fun w a => by simp [Instr.fieldAt, Instr.sureAddr, fieldPlace, Tryd.runUnderlying117, Tryd.sizeOf17]⟩
instance : Fld Tryd.prog 117 1 1 := ⟨fun w a => by simp [Instr.fieldAt, Instr.sureAddr, fieldPlace, Tryd.runUnderlying117, Tryd.sizeOf17]⟩
instance : Fld Tryd.prog 117 2 2 := ⟨fun w a => by simp [Instr.fieldAt, Instr.sureAddr, fieldPlace, Tryd.runUnderlying117, Tryd.sizeOf17]⟩
instance : Fld Tryd.prog 117 3 3 := ⟨fun w a => by simp [Instr.fieldAt, Instr.sureAddr, fieldPlace, Tryd.runUnderlying117, Tryd.sizeOf9]⟩
instance : Cel Tryd.prog 118 4 := ⟨by kernel_rfl⟩
instance : Siz Tryd.prog 118 4 := ⟨Tryd.sizeOf118⟩
instance : Agg Tryd.prog 118 true := ⟨Tryd.isAgg118⟩
instance : Zer Tryd.prog 118 (.agg #[.pointer none, .pointer none, .pointer none, .string ⟨#[]⟩]) := ⟨Tryd.zeroValue118⟩
instance : Inf Tryd.prog 118 4 40 (.agg #[.pointer none, .pointer none, .pointer none, .string ⟨#[]⟩]) := ⟨inf_of (by kernel_rfl)⟩
instance : Plc Tryd.prog 118 [(0, 1), (1, 1), (2, 1), (3, 1)] := ⟨⟨_, Tryd.runUnderlying118, fun w => by simp [Tryd.sizeOf17, Tryd.sizeOf9]⟩⟩
instance : Fld Tryd.prog 118 0 0 := ⟨fun w a => by simp [Instr.fieldAt, Instr.sureAddr, fieldPlace, Tryd.runUnderlying118, Tryd.sizeOf17]⟩
instance : Fld Tryd.prog 118 1 1 := ⟨fun w a => by simp [Instr.fieldAt, Instr.sureAddr, fieldPlace, Tryd.runUnderlying118, Tryd.sizeOf17]⟩
instance : Fld Tryd.prog 118 2 2 := ⟨fun w a => by simp [Instr.fieldAt, Instr.sureAddr, fieldPlace, Tryd.runUnderlying118, Tryd.sizeOf17]⟩
instance : Fld Tryd.prog 118 3 3 := ⟨fun w a => by simp [Instr.fieldAt, Instr.sureAddr, fieldPlace, Tryd.runUnderlying118, Tryd.sizeOf9]⟩
instance : Und Tryd.prog 119 (.array 0 16) := ⟨Tryd.underlying119⟩
instance : Cel Tryd.prog 119 0 := ⟨by kernel_rfl⟩
instance : Siz Tryd.prog 119 0 := ⟨Tryd.sizeOf119⟩
instance : Agg Tryd.prog 119 true := ⟨Tryd.isAgg119⟩
instance : Zer Tryd.prog 119 (.agg #[]) := ⟨Tryd.zeroValue119⟩
instance : Inf Tryd.prog 119 0 0 (.agg #[]) := ⟨inf_of (by kernel_rfl)⟩
instance : Cel Tryd.prog 120 0 := ⟨by kernel_rfl⟩
instance : Siz Tryd.prog 120 0 := ⟨Tryd.sizeOf120⟩
instance : Agg Tryd.prog 120 true := ⟨Tryd.isAgg120⟩
instance : Zer Tryd.prog 120 (.agg #[]) := ⟨Tryd.zeroValue120⟩
instance : Inf Tryd.prog 120 0 0 (.agg #[]) := ⟨inf_of (by kernel_rfl)⟩
instance : Plc Tryd.prog 120 [(0, 0)] := ⟨⟨_, Tryd.runUnderlying120, fun w => by simp [Tryd.sizeOf119]⟩⟩
instance : Cel Tryd.prog 121 0 := ⟨by kernel_rfl⟩
instance : Siz Tryd.prog 121 0 := ⟨Tryd.sizeOf121⟩
instance : Agg Tryd.prog 121 true := ⟨Tryd.isAgg121⟩
instance : Zer Tryd.prog 121 (.agg #[]) := ⟨Tryd.zeroValue121⟩
instance : Inf Tryd.prog 121 0 0 (.agg #[]) := ⟨inf_of (by kernel_rfl)⟩
instance : Plc Tryd.prog 121 [(0, 0)] := ⟨⟨_, Tryd.runUnderlying121, fun w => by simp [Tryd.sizeOf119]⟩⟩
instance : Cel Tryd.prog 122 1 := ⟨by kernel_rfl⟩
instance : Siz Tryd.prog 122 1 := ⟨Tryd.sizeOf122⟩
instance : Agg Tryd.prog 122 false := ⟨Tryd.isAgg122⟩
instance : Zer Tryd.prog 122 (.nilFunc) := ⟨Tryd.zeroValue122⟩
instance : Inf Tryd.prog 122 1 8 (.nilFunc) := ⟨inf_of (by kernel_rfl)⟩
instance : Und Tryd.prog 123 (.int .u8) := ⟨Tryd.underlying123⟩
instance : Cel Tryd.prog 123 1 := ⟨by kernel_rfl⟩
instance : Siz Tryd.prog 123 1 := ⟨Tryd.sizeOf123⟩
instance : Agg Tryd.prog 123 false := ⟨Tryd.isAgg123⟩
instance : Zer Tryd.prog 123 (.int .u8 0) := ⟨Tryd.zeroValue123⟩
instance : Inf Tryd.prog 123 1 1 (.int .u8 0) := ⟨inf_of (by kernel_rfl)⟩
instance : Und Tryd.prog 124 (.int .u8) := ⟨Tryd.underlying124⟩
instance : Cel Tryd.prog 124 1 := ⟨by kernel_rfl⟩
instance : Siz Tryd.prog 124 1 := ⟨Tryd.sizeOf124⟩
instance : Agg Tryd.prog 124 false := ⟨Tryd.isAgg124⟩
instance : Zer Tryd.prog 124 (.int .u8 0) := ⟨Tryd.zeroValue124⟩
instance : Inf Tryd.prog 124 1 1 (.int .u8 0) := ⟨inf_of (by kernel_rfl)⟩
instance : Cel Tryd.prog 125 1 := ⟨by kernel_rfl⟩
instance : Siz Tryd.prog 125 1 := ⟨Tryd.sizeOf125⟩
instance : Agg Tryd.prog 125 false := ⟨Tryd.isAgg125⟩
instance : Zer Tryd.prog 125 (.nilFunc) := ⟨Tryd.zeroValue125⟩
instance : Inf Tryd.prog 125 1 8 (.nilFunc) := ⟨inf_of (by kernel_rfl)⟩
instance : Und Tryd.prog 126 (.int .i32) := ⟨Tryd.underlying126⟩
instance : Cel Tryd.prog 126 1 := ⟨by kernel_rfl⟩
instance : Siz Tryd.prog 126 1 := ⟨Tryd.sizeOf126⟩
instance : Agg Tryd.prog 126 false := ⟨Tryd.isAgg126⟩
instance : Zer Tryd.prog 126 (.int .i32 0) := ⟨Tryd.zeroValue126⟩
instance : Inf Tryd.prog 126 1 4 (.int .i32 0) := ⟨inf_of (by kernel_rfl)⟩
instance : Und Tryd.prog 127 (.int .i32) := ⟨Tryd.underlying127⟩
instance : Cel Tryd.prog 127 1 := ⟨by kernel_rfl⟩
instance : Siz Tryd.prog 127 1 := ⟨Tryd.sizeOf127⟩
instance : Agg Tryd.prog 127 false := ⟨Tryd.isAgg127⟩
instance : Zer Tryd.prog 127 (.int .i32 0) := ⟨Tryd.zeroValue127⟩
instance : Inf Tryd.prog 127 1 4 (.int .i32 0) := ⟨inf_of (by kernel_rfl)⟩
instance : Cel Tryd.prog 128 11 := ⟨by kernel_rfl⟩
instance : Siz Tryd.prog 128 11 := ⟨Tryd.sizeOf128⟩
instance : Agg Tryd.prog 128 true := ⟨Tryd.isAgg128⟩
instance : Zer Tryd.prog 128 (.agg #[.int .u64 0, .int .u64 0, .int .u32 0, .int .u8 0, .int .u8 0, .int .u8 0, .int .u8 0, .nilFunc, .pointer none, .int .i32 0, .int .i32 0]) := ⟨Tryd.zeroValue128⟩
instance : Inf Tryd.prog 128 11 48 (.agg #[.int .u64 0, .int .u64 0, .int .u32 0, .int .u8 0, .int .u8 0, .int .u8 0, .int .u8 0, .nilFunc, .pointer none, .int .i32 0, .int .i32 0]) := ⟨inf_of (by kernel_rfl)⟩
instance : Plc Tryd.prog 128 [(0, 1), (1, 1), (2, 1), (3, 1), (4, 1), (5, 1), (6, 1), (7, 1), (8, 1), (9, 1), (10, 1)] := ⟨⟨_, Tryd.runUnderlying128, fun w => by simp [Tryd.sizeOf12, Tryd.sizeOf123, Tryd.sizeOf124, Tryd.sizeOf125, Tryd.sizeOf126, Tryd.sizeOf127, Tryd.sizeOf5, Tryd.sizeOf70, Tryd.sizeOf94]⟩⟩
instance : Fld Tryd.prog 128 0 0 := ⟨fun w a => by simp [Instr.fieldAt, Instr.sureAddr, fieldPlace, Tryd.runUnderlying128, Tryd.sizeOf12]⟩
instance : Fld Tryd.prog 128 1 1 := ⟨fun w a => by simp [Instr.fieldAt, Instr.sureAddr, fieldPlace, Tryd.runUnderlying128, Tryd.sizeOf12]⟩
instance : Fld Tryd.prog 128 2 2 := ⟨fun w a => by simp [Instr.fieldAt, Instr.sureAddr, fieldPlace, Tryd.runUnderlying128, Tryd.sizeOf94]⟩
instance : Fld Tryd.prog 128 3 3 := ⟨fun w a => by simp [Instr.fieldAt, Instr.sureAddr, fieldPlace, Tryd.runUnderlying128, Tryd.sizeOf123]⟩
instance : Fld Tryd.prog 128 4 4 := ⟨fun w a => by simp [Instr.fieldAt, Instr.sureAddr, fieldPlace, Tryd.runUnderlying128, Tryd.sizeOf5]⟩
instance : Fld Tryd.prog 128 5 5 := ⟨fun w a => by simp [Instr.fieldAt, Instr.sureAddr, fieldPlace, Tryd.runUnderlying128, Tryd.sizeOf5]⟩
instance : Fld Tryd.prog 128 6 6 := ⟨fun w a => by simp [Instr.fieldAt, Instr.sureAddr, fieldPlace, Tryd.runUnderlying128, Tryd.sizeOf124]⟩
instance : Fld Tryd.prog 128 7 7 := ⟨fun w a => by simp [Instr.fieldAt, Instr.sureAddr, fieldPlace, Tryd.runUnderlying128, Tryd.sizeOf125]⟩
instance : Fld Tryd.prog 128 8 8 := ⟨fun w a => by simp [Instr.fieldAt, Instr.sureAddr, fieldPlace, Tryd.runUnderlying128, Tryd.sizeOf70]⟩
instance : Fld Tryd.prog 128 9 9 := ⟨fun w a => by simp [Instr.fieldAt, Instr.sureAddr, fieldPlace, Tryd.runUnderlying128, Tryd.sizeOf126]⟩
instance : Fld Tryd.prog 128 10 10 := ⟨fun w a => by simp [Instr.fieldAt, Instr.sureAddr, fieldPlace, Tryd.runUnderlying128, Tryd.sizeOf127]⟩
instance : Cel Tryd.prog 129 11 := ⟨by kernel_rfl⟩
instance : Siz Tryd.prog 129 11 := ⟨Tryd.sizeOf129⟩
instance : Agg Tryd.prog 129 true := ⟨Tryd.isAgg129⟩
instance : Zer Tryd.prog 129 (.agg #[.int .u64 0, .int .u64 0, .int .u32 0, .int .u8 0, .int .u8 0, .int .u8 0, .int .u8 0, .nilFunc, .pointer none, .int .i32 0, .int .i32 0]) := ⟨Tryd.zeroValue129⟩
instance : Inf Tryd.prog 129 11 48 (.agg #[.int .u64 0, .int .u64 0, .int .u32 0, .int .u8 0, .int .u8 0, .int .u8 0, .int .u8 0, .nilFunc, .pointer none, .int .i32 0, .int .i32 0]) := ⟨inf_of (by kernel_rfl)⟩
instance : Plc Tryd.prog 129 [(0, 1), (1, 1), (2, 1), (3, 1), (4, 1), (5, 1), (6, 1), (7, 1), (8, 1), (9, 1), (10, 1)] := ⟨⟨_, Tryd.runUnderlying129, fun w => by simp [Tryd.sizeOf12, Tryd.sizeOf123, Tryd.sizeOf124, Tryd.sizeOf125, Tryd.sizeOf126, Tryd.sizeOf127, Tryd.sizeOf5, Tryd.sizeOf70, Tryd.sizeOf94]⟩⟩
instance : Fld Tryd.prog 129 0 0 := ⟨fun w a => by simp [Instr.fieldAt, Instr.sureAddr, fieldPlace, Tryd.runUnderlying129, Tryd.sizeOf12]⟩
instance : Fld Tryd.prog 129 1 1 := ⟨fun w a => by simp [Instr.fieldAt, Instr.sureAddr, fieldPlace, Tryd.runUnderlying129, Tryd.sizeOf12]⟩
instance : Fld Tryd.prog 129 2 2 := ⟨fun w a => by simp [Instr.fieldAt, Instr.sureAddr, fieldPlace, Tryd.runUnderlying129, Tryd.sizeOf94]⟩
instance : Fld Tryd.prog 129 3 3 := ⟨fun w a => by simp [Instr.fieldAt, Instr.sureAddr, fieldPlace, Tryd.runUnderlying129, Tryd.sizeOf123]⟩
instance : Fld Tryd.prog 129 4 4 := ⟨fun w a => by simp [Instr.fieldAt, Instr.sureAddr, fieldPlace, Tryd.runUnderlying129, Tryd.sizeOf5]⟩
instance : Fld Tryd.prog 129 5 5 := ⟨fun w a => by simp [Instr.fieldAt, Instr.sureAddr, fieldPlace, Tryd.runUnderlying129, Tryd.sizeOf5]⟩
instance : Fld Tryd.prog 129 6 6 := ⟨fun w a => by simp [Instr.fieldAt, Instr.sureAddr, fieldPlace, Tryd.runUnderlying129, Tryd.sizeOf124]⟩
instance : Fld Tryd.prog 129 7 7 := ⟨fun w a => by simp [Instr.fieldAt, Instr.sureAddr, fieldPlace, Tryd.runUnderlying129, Tryd.sizeOf125]⟩
instance : Fld Tryd.prog 129 8 8 := ⟨fun w a => by simp [Instr.fieldAt, Instr.sureAddr, fieldPlace, Tryd.runUnderlying129, Tryd.sizeOf70]⟩
instance : Fld Tryd.prog 129 9 9 := ⟨fun w a => by simp [Instr.fieldAt, Instr.sureAddr, fieldPlace, Tryd.runUnderlying129, Tryd.sizeOf126]⟩
instance : Fld Tryd.prog 129 10 10 := ⟨fun w a => by simp [Instr.fieldAt, Instr.sureAddr, fieldPlace, Tryd.runUnderlying129, Tryd.sizeOf127]⟩
instance : Mix Tryd.prog := ⟨by decide⟩
end Go.Proofs
