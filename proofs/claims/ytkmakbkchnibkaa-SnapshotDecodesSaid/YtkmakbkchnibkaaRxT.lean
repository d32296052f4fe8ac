/- Facts of the types of the program. -/
import Derived.Test.YtkmakbkchnibkaaProg
import Derived.Test.YtkmakbkchnibkaaRxAll
import Derived.KernelRfl
namespace Go.Rx
open Go
theorem mixed : Go.Proofs.Try.prog.follows .mixedOrders = true := by kernel_rfl
theorem fd.api_Resting_0 : fldOf Go.Proofs.Try.prog 33 0 0 25 1 = true := by kernel_rfl
theorem sc.uint64 : isSc Go.Proofs.Try.prog 25 = true := by kernel_rfl
theorem sl.sl_api_Resting : slcOf Go.Proofs.Try.prog 24 33 7 = true := by kernel_rfl
theorem ag.api_Resting : isAg Go.Proofs.Try.prog 33 7 = true := by kernel_rfl
theorem fd.api_Book_1 : fldOf Go.Proofs.Try.prog 27 1 2 24 1 = true := by kernel_rfl
theorem sc.sl_api_Resting : isSc Go.Proofs.Try.prog 24 = true := by kernel_rfl
theorem fd.api_Book_2 : fldOf Go.Proofs.Try.prog 27 2 3 24 1 = true := by kernel_rfl
theorem sl.sl_sl_api_Resting : slcOf Go.Proofs.Try.prog 46 24 1 = true := by kernel_rfl
theorem z.sl_api_Resting : zeroOf Go.Proofs.Try.prog 24 = some (.slice none 0 0) := by kernel_rfl
theorem z.api_Resting : zeroOf Go.Proofs.Try.prog 33 = some (.agg #[.int .u64 0, .int .u32 0, .int .i64 0, .int .i64 0, .int .u64 0, .int .u64 0, .int .u64 0]) := by kernel_rfl
theorem sz.api_Resting : szOf Go.Proofs.Try.prog 33 7 = true := by kernel_rfl
theorem fd.api_Resting_3 : fldOf Go.Proofs.Try.prog 33 3 3 3 1 = true := by kernel_rfl
theorem sc.int : isSc Go.Proofs.Try.prog 3 = true := by kernel_rfl
theorem fd.api_Resting_4 : fldOf Go.Proofs.Try.prog 33 4 4 25 1 = true := by kernel_rfl
theorem so.api_Resting : sorts Go.Proofs.Try.prog 20 33 = some [.int .u64, .int .u32, .int .i64, .int .i64, .int .u64, .int .u64, .int .u64] := by kernel_rfl
theorem gd.api_Resting : Go.Proofs.Try.prog.eqGuardType Go.Proofs.Try.prog.depth 33 = false := by kernel_rfl
theorem fd.api_Book_0 : fldOf Go.Proofs.Try.prog 27 0 0 23 2 = true := by kernel_rfl
theorem ag.api_Config : isAg Go.Proofs.Try.prog 23 2 = true := by kernel_rfl
theorem so.api_Config : sorts Go.Proofs.Try.prog 20 23 = some [.int .i64, .int .i64] := by kernel_rfl
theorem gd.api_Config : Go.Proofs.Try.prog.eqGuardType Go.Proofs.Try.prog.depth 23 = false := by kernel_rfl
theorem fd.api_Book_3 : fldOf Go.Proofs.Try.prog 27 3 4 25 1 = true := by kernel_rfl
theorem fd.api_Book_4 : fldOf Go.Proofs.Try.prog 27 4 5 25 1 = true := by kernel_rfl
theorem z.api_Book : zeroOf Go.Proofs.Try.prog 27 = some (.agg #[.int .i64 0, .int .i64 0, .slice none 0 0, .slice none 0 0, .int .u64 0, .int .u64 0]) := by kernel_rfl
theorem el.api_Resting : elOf Go.Proofs.Try.prog 33 7 56 = true := by kernel_rfl
theorem sz.sl_api_Resting : szOf Go.Proofs.Try.prog 24 1 = true := by kernel_rfl
theorem ag.api_Book : isAg Go.Proofs.Try.prog 27 6 = true := by kernel_rfl
theorem sz.api_Book : szOf Go.Proofs.Try.prog 27 6 = true := by kernel_rfl
theorem ar.a2_sl_api_Resting : arrOf Go.Proofs.Try.prog 49 2 24 1 = true := by kernel_rfl
theorem z.a2_sl_api_Resting : zeroOf Go.Proofs.Try.prog 49 = some (.agg #[.slice none 0 0, .slice none 0 0]) := by kernel_rfl
theorem sz.a2_sl_api_Resting : szOf Go.Proofs.Try.prog 49 2 = true := by kernel_rfl
theorem pl.api_Resting : fieldPlaces Go.Proofs.Try.prog 33 = some [(0, 1), (1, 1), (2, 1), (3, 1), (4, 1), (5, 1), (6, 1)] := by kernel_rfl
theorem pl.api_Book : fieldPlaces Go.Proofs.Try.prog 27 = some [(0, 2), (2, 1), (3, 1), (4, 1), (5, 1)] := by kernel_rfl
theorem bl.bool : isBoolT Go.Proofs.Try.prog 4 = true := by kernel_rfl
theorem ce.api_Book : Go.Proofs.Try.prog.cellsOf 27 = 6 := by kernel_rfl
theorem ce.api_Config : Go.Proofs.Try.prog.cellsOf 23 = 2 := by kernel_rfl
theorem ce.sl_api_Resting : Go.Proofs.Try.prog.cellsOf 24 = 1 := by kernel_rfl
theorem ce.uint64 : Go.Proofs.Try.prog.cellsOf 25 = 1 := by kernel_rfl
theorem so.uint64 : sorts Go.Proofs.Try.prog 20 25 = some [.int .u64] := by kernel_rfl
theorem byt.api_Resting : Go.Proofs.Try.prog.bytesOf 33 = 56 := by kernel_rfl
theorem fd.api_Config_0 : fldOf Go.Proofs.Try.prog 23 0 0 3 1 = true := by kernel_rfl
theorem fd.api_Config_1 : fldOf Go.Proofs.Try.prog 23 1 1 3 1 = true := by kernel_rfl
theorem fd.api_Resting_6 : fldOf Go.Proofs.Try.prog 33 6 6 25 1 = true := by kernel_rfl
theorem fd.api_Resting_5 : fldOf Go.Proofs.Try.prog 33 5 5 25 1 = true := by kernel_rfl
theorem fd.api_Resting_2 : fldOf Go.Proofs.Try.prog 33 2 2 3 1 = true := by kernel_rfl
theorem mp.m_uint64_bool : mapOf Go.Proofs.Try.prog 63 25 4 (.int .u64) := ⟨Go.Proofs.Try.underlying63, Go.Proofs.Try.underlying25⟩
theorem z.bool : zeroOf Go.Proofs.Try.prog 4 = some (.bool false) := by kernel_rfl
theorem sl.sl_uint8 : slcOf Go.Proofs.Try.prog 36 5 1 = true := by kernel_rfl
theorem sc.uint8 : isSc Go.Proofs.Try.prog 5 = true := by kernel_rfl
theorem it.uint8 : intOfT Go.Proofs.Try.prog 5 .u8 = true := by kernel_rfl
theorem it.uint32 : intOfT Go.Proofs.Try.prog 31 .u32 = true := by kernel_rfl
theorem it.uint64 : intOfT Go.Proofs.Try.prog 25 .u64 = true := by kernel_rfl
theorem z.uint8 : zeroOf Go.Proofs.Try.prog 5 = some (.int .u8 0) := by kernel_rfl
theorem el.uint8 : elOf Go.Proofs.Try.prog 5 1 1 = true := by kernel_rfl
theorem it.int : intOfT Go.Proofs.Try.prog 3 .i64 = true := by kernel_rfl
theorem fd.api_Resting_1 : fldOf Go.Proofs.Try.prog 33 1 1 31 1 = true := by kernel_rfl
theorem sc.uint32 : isSc Go.Proofs.Try.prog 31 = true := by kernel_rfl
theorem fd.snapshot_reader_0 : fldOf Go.Proofs.Try.prog 53 0 0 36 1 = true := by kernel_rfl
theorem sc.sl_uint8 : isSc Go.Proofs.Try.prog 36 = true := by kernel_rfl
theorem sz.sl_uint8 : szOf Go.Proofs.Try.prog 36 1 = true := by kernel_rfl
theorem st.string : isStr Go.Proofs.Try.prog 9 = true := by kernel_rfl
theorem pl.api_Config : fieldPlaces Go.Proofs.Try.prog 23 = some [(0, 1), (1, 1)] := by kernel_rfl
theorem z.api_Config : zeroOf Go.Proofs.Try.prog 23 = some (.agg #[.int .i64 0, .int .i64 0]) := by kernel_rfl
theorem pl.snapshot_reader : fieldPlaces Go.Proofs.Try.prog 53 = some [(0, 1)] := by kernel_rfl
theorem z.snapshot_reader : zeroOf Go.Proofs.Try.prog 53 = some (.agg #[.slice none 0 0]) := by kernel_rfl
theorem sz.uint8 : szOf Go.Proofs.Try.prog 5 1 = true := by kernel_rfl
theorem so.uint8 : sorts Go.Proofs.Try.prog 20 5 = some [.int .u8] := by kernel_rfl
theorem byt.uint8 : Go.Proofs.Try.prog.bytesOf 5 = 1 := by kernel_rfl
end Go.Rx
