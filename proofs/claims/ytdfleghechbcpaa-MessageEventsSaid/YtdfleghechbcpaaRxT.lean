/- Facts of the types of the program. -/
import Derived.Test.YtdfleghechbcpaaProg
import Derived.Test.YtdfleghechbcpaaRxNf2
import Derived.KernelRfl
namespace Go.Rx
open Go
theorem mixed : Go.Proofs.Try.prog.follows .mixedOrders = true := by kernel_rfl
theorem z.message_field : zeroOf Go.Proofs.Try.prog 79 = some (.agg #[.int .i64 0, .int .u64 0, .bool false]) := by kernel_rfl
theorem pl.message_field : fieldPlaces Go.Proofs.Try.prog 79 = some [(0, 1), (1, 1), (2, 1)] := by kernel_rfl
theorem sz.message_field : szOf Go.Proofs.Try.prog 79 3 = true := by kernel_rfl
theorem ag.message_field : isAg Go.Proofs.Try.prog 79 3 = true := by kernel_rfl
theorem it.int : intOfT Go.Proofs.Try.prog 3 .i64 = true := by kernel_rfl
theorem it.uint64 : intOfT Go.Proofs.Try.prog 22 .u64 = true := by kernel_rfl
theorem z.api_Input : zeroOf Go.Proofs.Try.prog 27 = some (.agg #[.int .i64 0, .int .i64 0, .int .u64 0, .int .u64 0, .int .u32 0, .int .i64 0, .int .i64 0, .int .i64 0, .int .u64 0, .int .u64 0, .int .i64 0]) := by kernel_rfl
theorem mp.m_int_uint64 : mapOf Go.Proofs.Try.prog 45 3 22 (.int .i64) := ⟨Go.Proofs.Try.underlying45, Go.Proofs.Try.underlying3⟩
theorem z.uint64 : zeroOf Go.Proofs.Try.prog 22 = some (.int .u64 0) := by kernel_rfl
theorem pl.api_Input : fieldPlaces Go.Proofs.Try.prog 27 = some [(0, 1), (1, 9), (10, 1)] := by kernel_rfl
theorem sz.api_Input : szOf Go.Proofs.Try.prog 27 11 = true := by kernel_rfl
theorem ag.api_Input : isAg Go.Proofs.Try.prog 27 11 = true := by kernel_rfl
theorem it.uint8 : intOfT Go.Proofs.Try.prog 5 .u8 = true := by kernel_rfl
theorem it.uint32 : intOfT Go.Proofs.Try.prog 23 .u32 = true := by kernel_rfl
theorem pl.api_Command : fieldPlaces Go.Proofs.Try.prog 25 = some [(0, 1), (1, 1), (2, 1), (3, 1), (4, 1), (5, 1), (6, 1), (7, 1), (8, 1)] := by kernel_rfl
theorem z.api_Command : zeroOf Go.Proofs.Try.prog 25 = some (.agg #[.int .i64 0, .int .u64 0, .int .u64 0, .int .u32 0, .int .i64 0, .int .i64 0, .int .i64 0, .int .u64 0, .int .u64 0]) := by kernel_rfl
theorem fd.api_Input_0 : fldOf Go.Proofs.Try.prog 27 0 0 3 1 = true := by kernel_rfl
theorem sc.int : isSc Go.Proofs.Try.prog 3 = true := by kernel_rfl
theorem fd.api_Input_1 : fldOf Go.Proofs.Try.prog 27 1 1 25 9 = true := by kernel_rfl
theorem fd.api_Command_0 : fldOf Go.Proofs.Try.prog 25 0 0 3 1 = true := by kernel_rfl
theorem ag.api_Command : isAg Go.Proofs.Try.prog 25 9 = true := by kernel_rfl
theorem sz.api_Command : szOf Go.Proofs.Try.prog 25 9 = true := by kernel_rfl
theorem fd.api_Command_1 : fldOf Go.Proofs.Try.prog 25 1 1 22 1 = true := by kernel_rfl
theorem sc.uint64 : isSc Go.Proofs.Try.prog 22 = true := by kernel_rfl
theorem fd.api_Command_2 : fldOf Go.Proofs.Try.prog 25 2 2 22 1 = true := by kernel_rfl
theorem fd.api_Command_3 : fldOf Go.Proofs.Try.prog 25 3 3 23 1 = true := by kernel_rfl
theorem sc.uint32 : isSc Go.Proofs.Try.prog 23 = true := by kernel_rfl
theorem fd.api_Command_7 : fldOf Go.Proofs.Try.prog 25 7 7 22 1 = true := by kernel_rfl
theorem fd.api_Command_8 : fldOf Go.Proofs.Try.prog 25 8 8 22 1 = true := by kernel_rfl
theorem fd.api_Command_4 : fldOf Go.Proofs.Try.prog 25 4 4 3 1 = true := by kernel_rfl
theorem fd.api_Command_5 : fldOf Go.Proofs.Try.prog 25 5 5 3 1 = true := by kernel_rfl
theorem fd.api_Command_6 : fldOf Go.Proofs.Try.prog 25 6 6 3 1 = true := by kernel_rfl
theorem fd.api_Input_2 : fldOf Go.Proofs.Try.prog 27 2 10 3 1 = true := by kernel_rfl
theorem sz.uint64 : szOf Go.Proofs.Try.prog 22 1 = true := by kernel_rfl
theorem sz.uint32 : szOf Go.Proofs.Try.prog 23 1 = true := by kernel_rfl
theorem sz.int : szOf Go.Proofs.Try.prog 3 1 = true := by kernel_rfl
theorem sl.sl_message_field : slcOf Go.Proofs.Try.prog 44 79 3 = true := by kernel_rfl
theorem fd.message_field_2 : fldOf Go.Proofs.Try.prog 79 2 2 4 1 = true := by kernel_rfl
theorem sc.bool : isSc Go.Proofs.Try.prog 4 = true := by kernel_rfl
theorem fd.message_field_0 : fldOf Go.Proofs.Try.prog 79 0 0 3 1 = true := by kernel_rfl
theorem fd.message_field_1 : fldOf Go.Proofs.Try.prog 79 1 1 22 1 = true := by kernel_rfl
theorem so.api_Input : sorts Go.Proofs.Try.prog 20 27 = some [.int .i64, .int .i64, .int .u64, .int .u64, .int .u32, .int .i64, .int .i64, .int .i64, .int .u64, .int .u64, .int .i64] := by kernel_rfl
theorem gd.api_Input : Go.Proofs.Try.prog.eqGuardType Go.Proofs.Try.prog.depth 27 = false := by kernel_rfl
theorem z.api_Frame : zeroOf Go.Proofs.Try.prog 30 = some (.agg #[.int .u8 0, .int .u64 0, .int .u64 0, .int .u64 0, .int .u64 0, .int .u64 0, .int .u64 0, .int .u64 0]) := by kernel_rfl
theorem pl.api_Frame : fieldPlaces Go.Proofs.Try.prog 30 = some [(0, 1), (1, 7)] := by kernel_rfl
theorem sz.api_Frame : szOf Go.Proofs.Try.prog 30 8 = true := by kernel_rfl
theorem ag.api_Frame : isAg Go.Proofs.Try.prog 30 8 = true := by kernel_rfl
theorem ar.a7_uint64 : arrOf Go.Proofs.Try.prog 28 7 22 1 = true := by kernel_rfl
theorem z.a7_uint64 : zeroOf Go.Proofs.Try.prog 28 = some (.agg #[.int .u64 0, .int .u64 0, .int .u64 0, .int .u64 0, .int .u64 0, .int .u64 0, .int .u64 0]) := by kernel_rfl
theorem pl.bourseref04_field : fieldPlaces Go.Proofs.Try.prog 65 = some [(0, 1), (1, 1), (2, 1), (3, 1)] := by kernel_rfl
theorem z.bourseref04_field : zeroOf Go.Proofs.Try.prog 65 = some (.agg #[.int .i64 0, .int .u64 0, .int .i64 0, .int .i64 0]) := by kernel_rfl
theorem sz.bourseref04_field : szOf Go.Proofs.Try.prog 65 4 = true := by kernel_rfl
theorem ag.bourseref04_field : isAg Go.Proofs.Try.prog 65 4 = true := by kernel_rfl
theorem sl.sl_bourseref04_field : slcOf Go.Proofs.Try.prog 54 65 4 = true := by kernel_rfl
theorem fd.bourseref04_field_0 : fldOf Go.Proofs.Try.prog 65 0 0 3 1 = true := by kernel_rfl
theorem fd.bourseref04_field_1 : fldOf Go.Proofs.Try.prog 65 1 1 22 1 = true := by kernel_rfl
theorem sl.sl_uint64 : slcOf Go.Proofs.Try.prog 49 22 1 = true := by kernel_rfl
theorem el.uint64 : elOf Go.Proofs.Try.prog 22 1 8 = true := by kernel_rfl
theorem fd.bourseref04_field_2 : fldOf Go.Proofs.Try.prog 65 2 2 3 1 = true := by kernel_rfl
theorem fd.api_Frame_1 : fldOf Go.Proofs.Try.prog 30 1 1 28 7 = true := by kernel_rfl
theorem fd.bourseref04_field_3 : fldOf Go.Proofs.Try.prog 65 3 3 3 1 = true := by kernel_rfl
theorem so.api_Frame : sorts Go.Proofs.Try.prog 20 30 = some [.int .u8, .int .u64, .int .u64, .int .u64, .int .u64, .int .u64, .int .u64, .int .u64] := by kernel_rfl
theorem gd.api_Frame : Go.Proofs.Try.prog.eqGuardType Go.Proofs.Try.prog.depth 30 = false := by kernel_rfl
theorem fd.api_Frame_0 : fldOf Go.Proofs.Try.prog 30 0 0 5 1 = true := by kernel_rfl
theorem sc.uint8 : isSc Go.Proofs.Try.prog 5 = true := by kernel_rfl
theorem ag.a7_uint64 : isAg Go.Proofs.Try.prog 28 7 = true := by kernel_rfl
theorem sz.a7_uint64 : szOf Go.Proofs.Try.prog 28 7 = true := by kernel_rfl
theorem z.api_Event : zeroOf Go.Proofs.Try.prog 36 = some (.agg #[.int .u64 0, .int .i64 0, .int .u64 0, .int .u64 0, .int .u64 0, .int .u32 0, .int .i64 0, .int .i64 0, .int .i64 0, .int .u64 0, .int .u64 0, .int .i64 0, .int .i64 0]) := by kernel_rfl
theorem it.api_Errno : intOfT Go.Proofs.Try.prog 31 .i64 = true := by kernel_rfl
theorem pl.api_Event : fieldPlaces Go.Proofs.Try.prog 36 = some [(0, 1), (1, 1), (2, 1), (3, 1), (4, 1), (5, 1), (6, 1), (7, 1), (8, 1), (9, 1), (10, 1), (11, 1), (12, 1)] := by kernel_rfl
theorem sz.api_Event : szOf Go.Proofs.Try.prog 36 13 = true := by kernel_rfl
theorem ag.api_Event : isAg Go.Proofs.Try.prog 36 13 = true := by kernel_rfl
theorem fd.api_Event_0 : fldOf Go.Proofs.Try.prog 36 0 0 22 1 = true := by kernel_rfl
theorem fd.api_Event_2 : fldOf Go.Proofs.Try.prog 36 2 2 22 1 = true := by kernel_rfl
theorem fd.api_Event_4 : fldOf Go.Proofs.Try.prog 36 4 4 22 1 = true := by kernel_rfl
theorem fd.api_Event_3 : fldOf Go.Proofs.Try.prog 36 3 3 22 1 = true := by kernel_rfl
theorem fd.api_Event_5 : fldOf Go.Proofs.Try.prog 36 5 5 23 1 = true := by kernel_rfl
theorem fd.api_Event_9 : fldOf Go.Proofs.Try.prog 36 9 9 22 1 = true := by kernel_rfl
theorem fd.api_Event_10 : fldOf Go.Proofs.Try.prog 36 10 10 22 1 = true := by kernel_rfl
theorem fd.api_Event_6 : fldOf Go.Proofs.Try.prog 36 6 6 3 1 = true := by kernel_rfl
theorem fd.api_Event_7 : fldOf Go.Proofs.Try.prog 36 7 7 3 1 = true := by kernel_rfl
theorem fd.api_Event_8 : fldOf Go.Proofs.Try.prog 36 8 8 3 1 = true := by kernel_rfl
theorem fd.api_Event_11 : fldOf Go.Proofs.Try.prog 36 11 11 3 1 = true := by kernel_rfl
theorem fd.api_Event_12 : fldOf Go.Proofs.Try.prog 36 12 12 31 1 = true := by kernel_rfl
theorem sc.api_Errno : isSc Go.Proofs.Try.prog 31 = true := by kernel_rfl
theorem sz.api_Errno : szOf Go.Proofs.Try.prog 31 1 = true := by kernel_rfl
theorem fd.api_Event_1 : fldOf Go.Proofs.Try.prog 36 1 1 3 1 = true := by kernel_rfl
theorem el.message_field : elOf Go.Proofs.Try.prog 79 3 24 = true := by kernel_rfl
theorem so.api_Event : sorts Go.Proofs.Try.prog 20 36 = some [.int .u64, .int .i64, .int .u64, .int .u64, .int .u64, .int .u32, .int .i64, .int .i64, .int .i64, .int .u64, .int .u64, .int .i64, .int .i64] := by kernel_rfl
theorem gd.api_Event : Go.Proofs.Try.prog.eqGuardType Go.Proofs.Try.prog.depth 36 = false := by kernel_rfl
end Go.Rx
