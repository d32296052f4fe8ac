/- Facts of the types of the program. -/
import Derived.Test.YtcggppjpnepoiaaDoorProg
import Derived.Test.YtcggppjpnepoiaaDoorRxAll
import Derived.KernelRfl
namespace Go.Rx
open Go
theorem mixed : Go.Proofs.Tryd.prog.follows .mixedOrders = true := by kernel_rfl
theorem sl.sl_api_Tag : slcOf Go.Proofs.Tryd.prog 22 30 2 = true := by kernel_rfl
theorem ag.api_Tag : isAg Go.Proofs.Tryd.prog 30 2 = true := by kernel_rfl
theorem z.api_Tag : zeroOf Go.Proofs.Tryd.prog 30 = some (.agg #[.int .i64 0, .string ⟨#[]⟩]) := by kernel_rfl
theorem sz.api_Tag : szOf Go.Proofs.Tryd.prog 30 2 = true := by kernel_rfl
theorem fd.api_Tag_0 : fldOf Go.Proofs.Tryd.prog 30 0 0 3 1 = true := by kernel_rfl
theorem sc.int : isSc Go.Proofs.Tryd.prog 3 = true := by kernel_rfl
theorem fd.api_Tag_1 : fldOf Go.Proofs.Tryd.prog 30 1 1 9 1 = true := by kernel_rfl
theorem sc.string : isSc Go.Proofs.Tryd.prog 9 = true := by kernel_rfl
theorem so.api_Tag : sorts Go.Proofs.Tryd.prog 20 30 = some [.int .i64, .str] := by kernel_rfl
theorem gd.api_Tag : Go.Proofs.Tryd.prog.eqGuardType Go.Proofs.Tryd.prog.depth 30 = false := by kernel_rfl
theorem st.string : isStr Go.Proofs.Tryd.prog 9 = true := by kernel_rfl
theorem it.uint8 : intOfT Go.Proofs.Tryd.prog 5 .u8 = true := by kernel_rfl
theorem it.uint64 : intOfT Go.Proofs.Tryd.prog 25 .u64 = true := by kernel_rfl
theorem el.api_Tag : elOf Go.Proofs.Tryd.prog 30 2 24 = true := by kernel_rfl
theorem pl.api_Tag : fieldPlaces Go.Proofs.Tryd.prog 30 = some [(0, 1), (1, 1)] := by kernel_rfl
theorem bl.bool : isBoolT Go.Proofs.Tryd.prog 4 = true := by kernel_rfl
theorem sl.sl_uint8 : slcOf Go.Proofs.Tryd.prog 35 5 1 = true := by kernel_rfl
theorem sc.uint8 : isSc Go.Proofs.Tryd.prog 5 = true := by kernel_rfl
theorem it.int : intOfT Go.Proofs.Tryd.prog 3 .i64 = true := by kernel_rfl
theorem z.uint8 : zeroOf Go.Proofs.Tryd.prog 5 = some (.int .u8 0) := by kernel_rfl
theorem z.bourseref03_Answer : zeroOf Go.Proofs.Tryd.prog 79 = some (.agg #[.string ⟨#[]⟩, .slice none 0 0, .int .i64 0, .int .i64 0, .bool false, .int .i64 0]) := by kernel_rfl
theorem pl.bourseref03_Answer : fieldPlaces Go.Proofs.Tryd.prog 79 = some [(0, 1), (1, 1), (2, 1), (3, 1), (4, 1), (5, 1)] := by kernel_rfl
theorem sz.bourseref03_Answer : szOf Go.Proofs.Tryd.prog 79 6 = true := by kernel_rfl
theorem ag.bourseref03_Answer : isAg Go.Proofs.Tryd.prog 79 6 = true := by kernel_rfl
theorem z.text_line : zeroOf Go.Proofs.Tryd.prog 75 = some (.agg #[.string ⟨#[]⟩, .slice none 0 0, .int .i64 0, .int .i64 0]) := by kernel_rfl
theorem pl.text_line : fieldPlaces Go.Proofs.Tryd.prog 75 = some [(0, 1), (1, 1), (2, 1), (3, 1)] := by kernel_rfl
theorem sz.text_line : szOf Go.Proofs.Tryd.prog 75 4 = true := by kernel_rfl
theorem ag.text_line : isAg Go.Proofs.Tryd.prog 75 4 = true := by kernel_rfl
theorem fd.text_line_2 : fldOf Go.Proofs.Tryd.prog 75 2 2 3 1 = true := by kernel_rfl
theorem sz.int : szOf Go.Proofs.Tryd.prog 3 1 = true := by kernel_rfl
theorem fd.text_line_0 : fldOf Go.Proofs.Tryd.prog 75 0 0 9 1 = true := by kernel_rfl
theorem sz.string : szOf Go.Proofs.Tryd.prog 9 1 = true := by kernel_rfl
theorem fd.text_line_1 : fldOf Go.Proofs.Tryd.prog 75 1 1 22 1 = true := by kernel_rfl
theorem sc.sl_api_Tag : isSc Go.Proofs.Tryd.prog 22 = true := by kernel_rfl
theorem sz.sl_api_Tag : szOf Go.Proofs.Tryd.prog 22 1 = true := by kernel_rfl
theorem fd.bourseref03_Answer_0 : fldOf Go.Proofs.Tryd.prog 79 0 0 9 1 = true := by kernel_rfl
theorem fd.bourseref03_Answer_1 : fldOf Go.Proofs.Tryd.prog 79 1 1 22 1 = true := by kernel_rfl
theorem fd.bourseref03_Answer_3 : fldOf Go.Proofs.Tryd.prog 79 3 3 26 1 = true := by kernel_rfl
theorem sc.api_Errno : isSc Go.Proofs.Tryd.prog 26 = true := by kernel_rfl
theorem fd.bourseref03_Answer_4 : fldOf Go.Proofs.Tryd.prog 79 4 4 4 1 = true := by kernel_rfl
theorem sz.bool : szOf Go.Proofs.Tryd.prog 4 1 = true := by kernel_rfl
theorem fd.bourseref03_Answer_5 : fldOf Go.Proofs.Tryd.prog 79 5 5 3 1 = true := by kernel_rfl
theorem fd.bourseref03_Answer_2 : fldOf Go.Proofs.Tryd.prog 79 2 2 3 1 = true := by kernel_rfl
theorem fd.text_line_3 : fldOf Go.Proofs.Tryd.prog 75 3 3 3 1 = true := by kernel_rfl
theorem el.uint8 : elOf Go.Proofs.Tryd.prog 5 1 1 = true := by kernel_rfl
theorem sz.uint8 : szOf Go.Proofs.Tryd.prog 5 1 = true := by kernel_rfl
theorem byt.api_Tag : Go.Proofs.Tryd.prog.bytesOf 30 = 24 := by kernel_rfl
theorem pl.text_Reader : fieldPlaces Go.Proofs.Tryd.prog 88 = some [(0, 1)] := by kernel_rfl
theorem z.text_Reader : zeroOf Go.Proofs.Tryd.prog 88 = some (.agg #[.slice none 0 0]) := by kernel_rfl
theorem fd.text_Reader_0 : fldOf Go.Proofs.Tryd.prog 88 0 0 35 1 = true := by kernel_rfl
theorem sc.sl_uint8 : isSc Go.Proofs.Tryd.prog 35 = true := by kernel_rfl
theorem sz.sl_uint8 : szOf Go.Proofs.Tryd.prog 35 1 = true := by kernel_rfl
theorem und.sl_uint8 : Go.Proofs.Tryd.prog.underlying 35 = some (.slice 5) := Go.Proofs.Tryd.underlying35
theorem sc.bool : isSc Go.Proofs.Tryd.prog 4 = true := by kernel_rfl
theorem und.p_text_Reader : Go.Proofs.Tryd.prog.underlying 50 = some (.pointer 88) := Go.Proofs.Tryd.underlying50
theorem sl.sl_bourselaw03_Piece : slcOf Go.Proofs.Tryd.prog 49 54 2 = true := by kernel_rfl
theorem fd.bourselaw03_Piece_0 : fldOf Go.Proofs.Tryd.prog 54 0 0 35 1 = true := by kernel_rfl
theorem fd.bourselaw03_Piece_1 : fldOf Go.Proofs.Tryd.prog 54 1 1 3 1 = true := by kernel_rfl
theorem ce.bourselaw03_Piece : Go.Proofs.Tryd.prog.cellsOf 54 = 2 := by kernel_rfl
theorem byt.bourselaw03_Piece : Go.Proofs.Tryd.prog.bytesOf 54 = 32 := by kernel_rfl
theorem so.uint8 : sorts Go.Proofs.Tryd.prog 20 5 = some [.int .u8] := by kernel_rfl
theorem byt.uint8 : Go.Proofs.Tryd.prog.bytesOf 5 = 1 := by kernel_rfl
theorem so.int : sorts Go.Proofs.Tryd.prog 20 3 = some [.int .i64] := by kernel_rfl
theorem ce.sl_uint8 : Go.Proofs.Tryd.prog.cellsOf 35 = 1 := by kernel_rfl
theorem ce.int : Go.Proofs.Tryd.prog.cellsOf 3 = 1 := by kernel_rfl
end Go.Rx
