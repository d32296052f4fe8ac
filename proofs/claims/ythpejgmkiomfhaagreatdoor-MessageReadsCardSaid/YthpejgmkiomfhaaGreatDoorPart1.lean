/- Parts of the proof. -/
import Derived.Test.YthpejgmkiomfhaaGreatDoorProg
import Derived.Test.YthpejgmkiomfhaaGreatDoorRxL2
import Derived.KernelRfl
import Derived.Shelf.Strconv.Atoi
import Derived.Shelf.Strconv.Itoa0
import Derived.Shelf.Strconv.Itoa1
import Derived.Shelf.LaysM
import Derived.Shelf.Strconv.Itoa2
import Derived.Shelf.Strconv.Itoa3
import Derived.Shelf.Strconv.AtoiErrFast
import Derived.Shelf.Strconv.ParseIntEmpty
import Derived.Shelf.Strconv.AtoiFail
import Derived.Shelf.Strconv.Clone
import Derived.Shelf.Strconv.SyntaxError
import Derived.Shelf.LaysC
import Derived.Shelf.Strconv.ToError
import Derived.Shelf.Strconv.Lower
import Derived.Shelf.Strconv.ParseUint10
import Derived.Shelf.Strconv.ParseUint10Empty
import Derived.Shelf.Strconv.ParseUint10Any
import Derived.Shelf.Strconv.ParseInt10
import Derived.Shelf.Strconv.AtoiLong
import Derived.Shelf.Strconv.AtoiInnerAll
import Derived.Shelf.Strconv.RangeError
import Derived.Shelf.Strconv.ToErrorRange
import Derived.Shelf.Strconv.AtoiAll
import Derived.Shelf.Strconv.ErrVarAll
import Derived.Shelf.Strconv.ParseUintEmpty
import Derived.Shelf.Strconv.ParseUint10b64
import Derived.Shelf.Strconv.ParseUint10b32
import Derived.Shelf.Strconv.ParseUint10b16
import Derived.Shelf.Strconv.ParseUint10b8
import Derived.Ground.MpProg
import Derived.Shelf.Pu.ParseUintPublic10
import Derived.Shelf.Pu.ErrVarParseUint
import Derived.Shelf.Strings.Search1
import Derived.Shelf.Strings.Search2
import Derived.Shelf.Strings.Cut
import Derived.Shelf.Strings.Shaped
import Derived.Shelf.GgClosure.StringsIndexFunc
import Derived.Ground.GgwProg
import Derived.Shelf.GgClosure.StringsIndexFuncTop
import Derived.Shelf.Strings.FuncGrows
import Derived.Shelf.Slices.Turned
import Derived.Shelf.Bytes.SlIndexAt
import Derived.Shelf.Bytes.SlSearch0
import Derived.Shelf.Bytes.IndexByte
import Derived.Lib.Walk
import Derived.Lib.ItoaMem
import Derived.WalkKit
import Derived.BigCall
import Derived.BigGuard
import Derived.Lib.ParseIntBCases
import Derived.Lib.ItoaNum
import Derived.Lib.AtoiErrMem
import Derived.Shelf.Lay
import Derived.Test.YthpejgmkiomfhaaGreatDoorRows
import Derived.Stop.LaidErr
import Derived.LaidLaws
import Derived.LaidHandle
import Derived.ChangeMaps5
import Derived.SizedLaws
set_option linter.unusedVariables false
set_option linter.unusedSimpArgs false
/- Facts of the types of the program. -/
namespace Go.Rx
open Go
theorem mixed : Go.Proofs.Tryz.prog.follows .mixedOrders = true := by kernel_rfl
theorem sl.sl_api_Tag : slcOf Go.Proofs.Tryz.prog 55 74 2 = true := by kernel_rfl
theorem ag.api_Tag : isAg Go.Proofs.Tryz.prog 74 2 = true := by kernel_rfl
theorem z.api_Tag : zeroOf Go.Proofs.Tryz.prog 74 = some (.agg #[.int .i64 0, .string ⟨#[]⟩]) := by kernel_rfl
theorem sz.api_Tag : szOf Go.Proofs.Tryz.prog 74 2 = true := by kernel_rfl
theorem fd.api_Tag_0 : fldOf Go.Proofs.Tryz.prog 74 0 0 3 1 = true := by kernel_rfl
theorem sc.int : isSc Go.Proofs.Tryz.prog 3 = true := by kernel_rfl
theorem fd.api_Tag_1 : fldOf Go.Proofs.Tryz.prog 74 1 1 9 1 = true := by kernel_rfl
theorem sc.string : isSc Go.Proofs.Tryz.prog 9 = true := by kernel_rfl
theorem st.string : isStr Go.Proofs.Tryz.prog 9 = true := by kernel_rfl
theorem it.uint8 : intOfT Go.Proofs.Tryz.prog 5 .u8 = true := by kernel_rfl
theorem it.uint64 : intOfT Go.Proofs.Tryz.prog 24 .u64 = true := by kernel_rfl
theorem so.api_Tag : sorts Go.Proofs.Tryz.prog 20 74 = some [.int .i64, .str] := by kernel_rfl
theorem byt.api_Tag : Go.Proofs.Tryz.prog.bytesOf 74 = 24 := by kernel_rfl
theorem sl.sl_uint8 : slcOf Go.Proofs.Tryz.prog 22 5 1 = true := by kernel_rfl
theorem sc.uint8 : isSc Go.Proofs.Tryz.prog 5 = true := by kernel_rfl
theorem it.int : intOfT Go.Proofs.Tryz.prog 3 .i64 = true := by kernel_rfl
theorem so.uint8 : sorts Go.Proofs.Tryz.prog 20 5 = some [.int .u8] := by kernel_rfl
theorem byt.uint8 : Go.Proofs.Tryz.prog.bytesOf 5 = 1 := by kernel_rfl
theorem z.message_field : zeroOf Go.Proofs.Tryz.prog 119 = some (.agg #[.int .i64 0, .int .u64 0, .bool false]) := by kernel_rfl
theorem pl.message_field : fieldPlaces Go.Proofs.Tryz.prog 119 = some [(0, 1), (1, 1), (2, 1)] := by kernel_rfl
theorem sz.message_field : szOf Go.Proofs.Tryz.prog 119 3 = true := by kernel_rfl
theorem ag.message_field : isAg Go.Proofs.Tryz.prog 119 3 = true := by kernel_rfl
theorem z.api_Input : zeroOf Go.Proofs.Tryz.prog 29 = some (.agg #[.int .i64 0, .int .i64 0, .int .u64 0, .int .u64 0, .int .u32 0, .int .i64 0, .int .i64 0, .int .i64 0, .int .u64 0, .int .u64 0, .int .i64 0]) := by kernel_rfl
theorem mp.m_int_uint64 : mapOf Go.Proofs.Tryz.prog 61 3 24 (.int .i64) := ⟨Go.Proofs.Tryz.underlying61, Go.Proofs.Tryz.underlying3⟩
theorem z.uint64 : zeroOf Go.Proofs.Tryz.prog 24 = some (.int .u64 0) := by kernel_rfl
theorem pl.api_Input : fieldPlaces Go.Proofs.Tryz.prog 29 = some [(0, 1), (1, 9), (10, 1)] := by kernel_rfl
theorem sz.api_Input : szOf Go.Proofs.Tryz.prog 29 11 = true := by kernel_rfl
theorem ag.api_Input : isAg Go.Proofs.Tryz.prog 29 11 = true := by kernel_rfl
theorem it.uint32 : intOfT Go.Proofs.Tryz.prog 25 .u32 = true := by kernel_rfl
theorem pl.api_Command : fieldPlaces Go.Proofs.Tryz.prog 27 = some [(0, 1), (1, 1), (2, 1), (3, 1), (4, 1), (5, 1), (6, 1), (7, 1), (8, 1)] := by kernel_rfl
theorem z.api_Command : zeroOf Go.Proofs.Tryz.prog 27 = some (.agg #[.int .i64 0, .int .u64 0, .int .u64 0, .int .u32 0, .int .i64 0, .int .i64 0, .int .i64 0, .int .u64 0, .int .u64 0]) := by kernel_rfl
theorem fd.api_Input_0 : fldOf Go.Proofs.Tryz.prog 29 0 0 3 1 = true := by kernel_rfl
theorem fd.api_Input_1 : fldOf Go.Proofs.Tryz.prog 29 1 1 27 9 = true := by kernel_rfl
theorem fd.api_Command_0 : fldOf Go.Proofs.Tryz.prog 27 0 0 3 1 = true := by kernel_rfl
theorem ag.api_Command : isAg Go.Proofs.Tryz.prog 27 9 = true := by kernel_rfl
theorem sz.api_Command : szOf Go.Proofs.Tryz.prog 27 9 = true := by kernel_rfl
theorem fd.api_Command_1 : fldOf Go.Proofs.Tryz.prog 27 1 1 24 1 = true := by kernel_rfl
theorem sc.uint64 : isSc Go.Proofs.Tryz.prog 24 = true := by kernel_rfl
theorem fd.api_Command_2 : fldOf Go.Proofs.Tryz.prog 27 2 2 24 1 = true := by kernel_rfl
theorem fd.api_Command_3 : fldOf Go.Proofs.Tryz.prog 27 3 3 25 1 = true := by kernel_rfl
theorem sc.uint32 : isSc Go.Proofs.Tryz.prog 25 = true := by kernel_rfl
theorem fd.api_Command_7 : fldOf Go.Proofs.Tryz.prog 27 7 7 24 1 = true := by kernel_rfl
theorem fd.api_Command_8 : fldOf Go.Proofs.Tryz.prog 27 8 8 24 1 = true := by kernel_rfl
theorem fd.api_Command_4 : fldOf Go.Proofs.Tryz.prog 27 4 4 3 1 = true := by kernel_rfl
theorem fd.api_Command_5 : fldOf Go.Proofs.Tryz.prog 27 5 5 3 1 = true := by kernel_rfl
theorem fd.api_Command_6 : fldOf Go.Proofs.Tryz.prog 27 6 6 3 1 = true := by kernel_rfl
theorem fd.api_Input_2 : fldOf Go.Proofs.Tryz.prog 29 2 10 3 1 = true := by kernel_rfl
theorem sz.uint64 : szOf Go.Proofs.Tryz.prog 24 1 = true := by kernel_rfl
theorem sz.uint32 : szOf Go.Proofs.Tryz.prog 25 1 = true := by kernel_rfl
theorem sz.int : szOf Go.Proofs.Tryz.prog 3 1 = true := by kernel_rfl
theorem sl.sl_message_field : slcOf Go.Proofs.Tryz.prog 79 119 3 = true := by kernel_rfl
theorem fd.message_field_2 : fldOf Go.Proofs.Tryz.prog 119 2 2 4 1 = true := by kernel_rfl
theorem sc.bool : isSc Go.Proofs.Tryz.prog 4 = true := by kernel_rfl
theorem fd.message_field_0 : fldOf Go.Proofs.Tryz.prog 119 0 0 3 1 = true := by kernel_rfl
theorem fd.message_field_1 : fldOf Go.Proofs.Tryz.prog 119 1 1 24 1 = true := by kernel_rfl
theorem so.api_Input : sorts Go.Proofs.Tryz.prog 20 29 = some [.int .i64, .int .i64, .int .u64, .int .u64, .int .u32, .int .i64, .int .i64, .int .i64, .int .u64, .int .u64, .int .i64] := by kernel_rfl
theorem gd.api_Input : Go.Proofs.Tryz.prog.eqGuardType Go.Proofs.Tryz.prog.depth 29 = false := by kernel_rfl
theorem z.api_Frame : zeroOf Go.Proofs.Tryz.prog 42 = some (.agg #[.int .u8 0, .int .u64 0, .int .u64 0, .int .u64 0, .int .u64 0, .int .u64 0, .int .u64 0, .int .u64 0]) := by kernel_rfl
theorem pl.api_Frame : fieldPlaces Go.Proofs.Tryz.prog 42 = some [(0, 1), (1, 7)] := by kernel_rfl
theorem sz.api_Frame : szOf Go.Proofs.Tryz.prog 42 8 = true := by kernel_rfl
theorem ag.api_Frame : isAg Go.Proofs.Tryz.prog 42 8 = true := by kernel_rfl
theorem ar.a7_uint64 : arrOf Go.Proofs.Tryz.prog 40 7 24 1 = true := by kernel_rfl
theorem z.a7_uint64 : zeroOf Go.Proofs.Tryz.prog 40 = some (.agg #[.int .u64 0, .int .u64 0, .int .u64 0, .int .u64 0, .int .u64 0, .int .u64 0, .int .u64 0]) := by kernel_rfl
theorem pl.bourseref04_field : fieldPlaces Go.Proofs.Tryz.prog 71 = some [(0, 1), (1, 1), (2, 1), (3, 1)] := by kernel_rfl
theorem z.bourseref04_field : zeroOf Go.Proofs.Tryz.prog 71 = some (.agg #[.int .i64 0, .int .u64 0, .int .i64 0, .int .i64 0]) := by kernel_rfl
theorem sz.bourseref04_field : szOf Go.Proofs.Tryz.prog 71 4 = true := by kernel_rfl
theorem ag.bourseref04_field : isAg Go.Proofs.Tryz.prog 71 4 = true := by kernel_rfl
theorem sl.sl_bourseref04_field : slcOf Go.Proofs.Tryz.prog 66 71 4 = true := by kernel_rfl
theorem fd.bourseref04_field_0 : fldOf Go.Proofs.Tryz.prog 71 0 0 3 1 = true := by kernel_rfl
theorem fd.bourseref04_field_1 : fldOf Go.Proofs.Tryz.prog 71 1 1 24 1 = true := by kernel_rfl
theorem sl.sl_uint64 : slcOf Go.Proofs.Tryz.prog 103 24 1 = true := by kernel_rfl
theorem el.uint64 : elOf Go.Proofs.Tryz.prog 24 1 8 = true := by kernel_rfl
theorem z.api_Event : zeroOf Go.Proofs.Tryz.prog 34 = some (.agg #[.int .u64 0, .int .i64 0, .int .u64 0, .int .u64 0, .int .u64 0, .int .u32 0, .int .i64 0, .int .i64 0, .int .i64 0, .int .u64 0, .int .u64 0, .int .i64 0, .int .i64 0]) := by kernel_rfl
theorem it.api_Errno : intOfT Go.Proofs.Tryz.prog 30 .i64 = true := by kernel_rfl
theorem pl.api_Event : fieldPlaces Go.Proofs.Tryz.prog 34 = some [(0, 1), (1, 1), (2, 1), (3, 1), (4, 1), (5, 1), (6, 1), (7, 1), (8, 1), (9, 1), (10, 1), (11, 1), (12, 1)] := by kernel_rfl
theorem sz.api_Event : szOf Go.Proofs.Tryz.prog 34 13 = true := by kernel_rfl
theorem ag.api_Event : isAg Go.Proofs.Tryz.prog 34 13 = true := by kernel_rfl
theorem fd.api_Event_0 : fldOf Go.Proofs.Tryz.prog 34 0 0 24 1 = true := by kernel_rfl
theorem fd.api_Event_2 : fldOf Go.Proofs.Tryz.prog 34 2 2 24 1 = true := by kernel_rfl
theorem fd.api_Event_4 : fldOf Go.Proofs.Tryz.prog 34 4 4 24 1 = true := by kernel_rfl
theorem fd.api_Event_3 : fldOf Go.Proofs.Tryz.prog 34 3 3 24 1 = true := by kernel_rfl
theorem fd.api_Event_5 : fldOf Go.Proofs.Tryz.prog 34 5 5 25 1 = true := by kernel_rfl
theorem fd.api_Event_9 : fldOf Go.Proofs.Tryz.prog 34 9 9 24 1 = true := by kernel_rfl
theorem fd.api_Event_10 : fldOf Go.Proofs.Tryz.prog 34 10 10 24 1 = true := by kernel_rfl
theorem fd.api_Event_6 : fldOf Go.Proofs.Tryz.prog 34 6 6 3 1 = true := by kernel_rfl
theorem fd.api_Event_7 : fldOf Go.Proofs.Tryz.prog 34 7 7 3 1 = true := by kernel_rfl
theorem fd.api_Event_8 : fldOf Go.Proofs.Tryz.prog 34 8 8 3 1 = true := by kernel_rfl
theorem fd.api_Event_11 : fldOf Go.Proofs.Tryz.prog 34 11 11 3 1 = true := by kernel_rfl
theorem fd.api_Event_12 : fldOf Go.Proofs.Tryz.prog 34 12 12 30 1 = true := by kernel_rfl
theorem sc.api_Errno : isSc Go.Proofs.Tryz.prog 30 = true := by kernel_rfl
theorem sz.api_Errno : szOf Go.Proofs.Tryz.prog 30 1 = true := by kernel_rfl
theorem fd.api_Event_1 : fldOf Go.Proofs.Tryz.prog 34 1 1 3 1 = true := by kernel_rfl
theorem el.message_field : elOf Go.Proofs.Tryz.prog 119 3 24 = true := by kernel_rfl
theorem so.api_Event : sorts Go.Proofs.Tryz.prog 20 34 = some [.int .u64, .int .i64, .int .u64, .int .u64, .int .u64, .int .u32, .int .i64, .int .i64, .int .i64, .int .u64, .int .u64, .int .i64, .int .i64] := by kernel_rfl
theorem gd.api_Event : Go.Proofs.Tryz.prog.eqGuardType Go.Proofs.Tryz.prog.depth 34 = false := by kernel_rfl
theorem fd.api_Frame_0 : fldOf Go.Proofs.Tryz.prog 42 0 0 5 1 = true := by kernel_rfl
theorem fd.api_Frame_1 : fldOf Go.Proofs.Tryz.prog 42 1 1 40 7 = true := by kernel_rfl
theorem ag.a7_uint64 : isAg Go.Proofs.Tryz.prog 40 7 = true := by kernel_rfl
theorem sz.a7_uint64 : szOf Go.Proofs.Tryz.prog 40 7 = true := by kernel_rfl
theorem so.api_Frame : sorts Go.Proofs.Tryz.prog 20 42 = some [.int .u8, .int .u64, .int .u64, .int .u64, .int .u64, .int .u64, .int .u64, .int .u64] := by kernel_rfl
theorem gd.api_Frame : Go.Proofs.Tryz.prog.eqGuardType Go.Proofs.Tryz.prog.depth 42 = false := by kernel_rfl
theorem z.uint8 : zeroOf Go.Proofs.Tryz.prog 5 = some (.int .u8 0) := by kernel_rfl
theorem z.bourseref03_Answer : zeroOf Go.Proofs.Tryz.prog 97 = some (.agg #[.string ⟨#[]⟩, .slice none 0 0, .int .i64 0, .int .i64 0, .bool false, .int .i64 0]) := by kernel_rfl
theorem pl.bourseref03_Answer : fieldPlaces Go.Proofs.Tryz.prog 97 = some [(0, 1), (1, 1), (2, 1), (3, 1), (4, 1), (5, 1)] := by kernel_rfl
theorem sz.bourseref03_Answer : szOf Go.Proofs.Tryz.prog 97 6 = true := by kernel_rfl
theorem ag.bourseref03_Answer : isAg Go.Proofs.Tryz.prog 97 6 = true := by kernel_rfl
theorem z.text_line : zeroOf Go.Proofs.Tryz.prog 93 = some (.agg #[.string ⟨#[]⟩, .slice none 0 0, .int .i64 0, .int .i64 0]) := by kernel_rfl
theorem pl.text_line : fieldPlaces Go.Proofs.Tryz.prog 93 = some [(0, 1), (1, 1), (2, 1), (3, 1)] := by kernel_rfl
theorem sz.text_line : szOf Go.Proofs.Tryz.prog 93 4 = true := by kernel_rfl
theorem ag.text_line : isAg Go.Proofs.Tryz.prog 93 4 = true := by kernel_rfl
theorem fd.text_line_2 : fldOf Go.Proofs.Tryz.prog 93 2 2 3 1 = true := by kernel_rfl
theorem fd.text_line_0 : fldOf Go.Proofs.Tryz.prog 93 0 0 9 1 = true := by kernel_rfl
theorem sz.string : szOf Go.Proofs.Tryz.prog 9 1 = true := by kernel_rfl
theorem pl.api_Tag : fieldPlaces Go.Proofs.Tryz.prog 74 = some [(0, 1), (1, 1)] := by kernel_rfl
theorem fd.text_line_1 : fldOf Go.Proofs.Tryz.prog 93 1 1 55 1 = true := by kernel_rfl
theorem sc.sl_api_Tag : isSc Go.Proofs.Tryz.prog 55 = true := by kernel_rfl
theorem el.api_Tag : elOf Go.Proofs.Tryz.prog 74 2 24 = true := by kernel_rfl
theorem sz.sl_api_Tag : szOf Go.Proofs.Tryz.prog 55 1 = true := by kernel_rfl
theorem fd.bourseref03_Answer_0 : fldOf Go.Proofs.Tryz.prog 97 0 0 9 1 = true := by kernel_rfl
theorem fd.bourseref03_Answer_1 : fldOf Go.Proofs.Tryz.prog 97 1 1 55 1 = true := by kernel_rfl
theorem fd.bourseref03_Answer_3 : fldOf Go.Proofs.Tryz.prog 97 3 3 30 1 = true := by kernel_rfl
theorem fd.bourseref03_Answer_4 : fldOf Go.Proofs.Tryz.prog 97 4 4 4 1 = true := by kernel_rfl
theorem sz.bool : szOf Go.Proofs.Tryz.prog 4 1 = true := by kernel_rfl
theorem fd.bourseref03_Answer_5 : fldOf Go.Proofs.Tryz.prog 97 5 5 3 1 = true := by kernel_rfl
theorem fd.bourseref03_Answer_2 : fldOf Go.Proofs.Tryz.prog 97 2 2 3 1 = true := by kernel_rfl
theorem fd.text_line_3 : fldOf Go.Proofs.Tryz.prog 93 3 3 3 1 = true := by kernel_rfl
theorem el.uint8 : elOf Go.Proofs.Tryz.prog 5 1 1 = true := by kernel_rfl
theorem sl.sl_sl_uint8 : slcOf Go.Proofs.Tryz.prog 147 22 1 = true := by kernel_rfl
theorem sc.sl_uint8 : isSc Go.Proofs.Tryz.prog 22 = true := by kernel_rfl
theorem z.sl_uint8 : zeroOf Go.Proofs.Tryz.prog 22 = some (.slice none 0 0) := by kernel_rfl
theorem z.a5_string : zeroOf Go.Proofs.Tryz.prog 63 = some (.agg #[.string ⟨#[]⟩, .string ⟨#[]⟩, .string ⟨#[]⟩, .string ⟨#[]⟩, .string ⟨#[]⟩]) := by kernel_rfl
theorem ar.a5_string : arrOf Go.Proofs.Tryz.prog 63 5 9 1 = true := by kernel_rfl
theorem sz.a5_string : szOf Go.Proofs.Tryz.prog 63 5 = true := by kernel_rfl
theorem ag.a5_string : isAg Go.Proofs.Tryz.prog 63 5 = true := by kernel_rfl
theorem gd.api_Tag : Go.Proofs.Tryz.prog.eqGuardType Go.Proofs.Tryz.prog.depth 74 = false := by kernel_rfl
theorem so.a7_uint64 : sorts Go.Proofs.Tryz.prog 20 40 = some [.int .u64, .int .u64, .int .u64, .int .u64, .int .u64, .int .u64, .int .u64] := by kernel_rfl
theorem gd.a7_uint64 : Go.Proofs.Tryz.prog.eqGuardType Go.Proofs.Tryz.prog.depth 40 = false := by kernel_rfl
theorem sl.sl_string : slcOf Go.Proofs.Tryz.prog 59 9 1 = true := by kernel_rfl
theorem z.string : zeroOf Go.Proofs.Tryz.prog 9 = some (.string ⟨#[]⟩) := by kernel_rfl
end Go.Rx
/- The shelf's contracts at this program (written by the kit's tools lay-shelf and lay-plain; picked by shelf2.py). -/
namespace Go.Proofs
open Go.Shelf
def Tryz.lays129_ren : Go.Shelf.Ren := ⟨fun | 129 => 121 | n => n, fun | 53 => 24 | 3 => 3 | 4 => 4 | 46 => 82 | 5 => 5 | 9 => 9 | n => n, fun | n => n⟩
theorem Tryz.lays129 : Go.Proofs.Lays.n129 Tryz.prog Tryz.lays129_ren := {
  mixed := by kernel_rfl
  f129 := Tryz.func121.trans (congrArg some (by kernel_rfl))
  t3 := Tryz.underlying3
  a3 := Tryz.isAgg3
  z3 := Tryz.sizeOf3
  v3 := Tryz.zeroValue3
  t4 := Tryz.underlying4
  a4 := Tryz.isAgg4
  z4 := Tryz.sizeOf4
  v4 := Tryz.zeroValue4
  t5 := Tryz.underlying5
  a5 := Tryz.isAgg5
  z5 := Tryz.sizeOf5
  v5 := Tryz.zeroValue5
  t9 := Tryz.underlying9
  a9 := Tryz.isAgg9
  z9 := Tryz.sizeOf9
  v9 := Tryz.zeroValue9
  t46 := Tryz.underlying82
  a46 := Tryz.isAgg82
  z46 := Tryz.sizeOf82
  v46 := Tryz.zeroValue82
  t53 := Tryz.underlying24
  a53 := Tryz.isAgg24
  z53 := Tryz.sizeOf24
  v53 := Tryz.zeroValue24 }
/-- bits.Len64: "Len64 returns the minimum number of bits required to represent x; the result is 0 for x == 0.": IT RETURNS 'Lib.bitLen x'; the world is as it was. ('h0', 'h1': x is a uint64.) (LAID: no walk: one application.) -/
theorem Tryz.bits_Len64 (x : Int) (w : World) (h0 : 0 ≤ x) (h1 : x ≤ 18446744073709551615) :
    Calls Tryz.prog 121 #[.int .u64 x] w fun e w' => e = .returned (.int .i64 (Lib.bitLen x.toNat)) ∧ w' = w := Any.bits_Len64 Tryz.lays129 x w h0 h1
def Tryz.lays317_ren : Go.Shelf.Ren := ⟨fun | 317 => 120 | n => n, fun | 3 => 3 | 46 => 82 | n => n, fun | n => n⟩
theorem Tryz.lays317 : Go.Proofs.Lays.n317 Tryz.prog Tryz.lays317_ren := {
  mixed := by kernel_rfl
  f317 := Tryz.func120.trans (congrArg some (by kernel_rfl))
  t3 := Tryz.underlying3
  a3 := Tryz.isAgg3
  z3 := Tryz.sizeOf3
  v3 := Tryz.zeroValue3
  t46 := Tryz.underlying82
  a46 := Tryz.isAgg82
  z46 := Tryz.sizeOf82
  v46 := Tryz.zeroValue82 }
open Go.Lib in
/-- internal/strconv.log10Pow2: "log10Pow2(x) returns ⌊log₁₀ 2**x⌋ = ⌊x * log₁₀ 2⌋.": '(x * 78913) >> 18', at an x up to 64 (a length in bits). The world is as it was. (LAID: no walk: one application.) -/
theorem Tryz.internal_strconv_log10Pow2 (x : Nat) (h : x ≤ 64) (w : World) :
    Calls Tryz.prog 120 #[.int .i64 x] w fun e w' => e = .returned (.int .i64 (Lib.l10 x)) ∧ w' = w := Any.internal_strconv_log10Pow2 Tryz.lays317 x h w
def Tryz.lays318_ren : Go.Shelf.Ren := ⟨fun | 318 => 122 | n => n, fun | 3 => 3 | 4 => 4 | n => n, fun | n => n⟩
theorem Tryz.lays318 : Go.Proofs.Lays.n318 Tryz.prog Tryz.lays318_ren := {
  mixed := by kernel_rfl
  f318 := Tryz.func122.trans (congrArg some (by kernel_rfl))
  t3 := Tryz.underlying3
  a3 := Tryz.isAgg3
  z3 := Tryz.sizeOf3
  v3 := Tryz.zeroValue3
  t4 := Tryz.underlying4
  a4 := Tryz.isAgg4
  z4 := Tryz.sizeOf4
  v4 := Tryz.zeroValue4 }
open Go.Lib in
/-- internal/strconv.bool2: "bool2 converts b to an integer: 1 for true, 0 for false." The world is as it was. (LAID: no walk: one application.) -/
theorem Tryz.internal_strconv_bool2_int (b : Bool) (w : World) :
    Calls Tryz.prog 122 #[.bool b] w fun e w' => e = .returned (.int .i64 (if b then 1 else 0)) ∧ w' = w := Any.internal_strconv_bool2_int Tryz.lays318 b w
def Tryz.lays283_ren : Go.Shelf.Ren := ⟨fun | 283 => 106 | n => n, fun | 3 => 3 | 9 => 9 | 4 => 4 | n => n, fun | n => n⟩
theorem Tryz.lays283 : Go.Proofs.Lays.n283 Tryz.prog Tryz.lays283_ren := {
  mixed := by kernel_rfl
  f283 := Tryz.func106.trans (congrArg some (by kernel_rfl))
  t3 := Tryz.underlying3
  a3 := Tryz.isAgg3
  z3 := Tryz.sizeOf3
  v3 := Tryz.zeroValue3
  t4 := Tryz.underlying4
  a4 := Tryz.isAgg4
  z4 := Tryz.sizeOf4
  v4 := Tryz.zeroValue4
  t9 := Tryz.underlying9
  a9 := Tryz.isAgg9
  z9 := Tryz.sizeOf9
  v9 := Tryz.zeroValue9 }
open Go.Lib in
/-- internal/strconv.small: "small returns the string for an i with 0 <= i < nSmalls.": i's decimal numeral. The world is as it was. (LAID: no walk: one application.) -/
theorem Tryz.internal_strconv_small (i : Nat) (h : i < 100) (w : World) :
    Calls Tryz.prog 106 #[.int .i64 i] w fun e w' => e = .returned (.string ⟨(Lib.decDigits i).toArray⟩) ∧ w' = w := Any.internal_strconv_small Tryz.lays283 i h w
def Tryz.laysM284_ren : Go.Shelf.Ren := ⟨fun | 284 => 107 | 129 => 121 | 317 => 120 | 318 => 122 | n => n, fun | 53 => 24 | 3 => 3 | 212 => 175 | 0 => 0 | 4 => 4 | 46 => 82 | 5 => 5 | 9 => 9 | n => n, fun | 17 => 1 | n => n⟩
theorem Tryz.laysM284 : Go.Proofs.LaysM.n284 Tryz.prog Tryz.laysM284_ren := {
  mixed := by kernel_rfl
  f129 := Tryz.func121.trans (congrArg some (by kernel_rfl))
  f284 := Tryz.func107.trans (congrArg some (by kernel_rfl))
  f317 := Tryz.func120.trans (congrArg some (by kernel_rfl))
  f318 := Tryz.func122.trans (congrArg some (by kernel_rfl))
  t0 := Tryz.underlying0
  a0 := Tryz.isAgg0
  z0 := Tryz.sizeOf0
  v0 := Tryz.zeroValue0
  t3 := Tryz.underlying3
  a3 := Tryz.isAgg3
  z3 := Tryz.sizeOf3
  v3 := Tryz.zeroValue3
  t4 := Tryz.underlying4
  a4 := Tryz.isAgg4
  z4 := Tryz.sizeOf4
  v4 := Tryz.zeroValue4
  t5 := Tryz.underlying5
  a5 := Tryz.isAgg5
  z5 := Tryz.sizeOf5
  v5 := Tryz.zeroValue5
  t9 := Tryz.underlying9
  a9 := Tryz.isAgg9
  z9 := Tryz.sizeOf9
  v9 := Tryz.zeroValue9
  t46 := Tryz.underlying82
  a46 := Tryz.isAgg82
  z46 := Tryz.sizeOf82
  v46 := Tryz.zeroValue82
  t53 := Tryz.underlying24
  a53 := Tryz.isAgg24
  z53 := Tryz.sizeOf24
  v53 := Tryz.zeroValue24
  t212 := Tryz.underlying175
  a212 := Tryz.isAgg175
  z212 := Tryz.sizeOf175
  v212 := Tryz.zeroValue175
  g17 := by kernel_rfl
  i0 := by kernel_rfl
  i3 := by kernel_rfl
  i4 := by kernel_rfl
  i5 := by kernel_rfl
  i9 := by kernel_rfl
  i46 := by kernel_rfl
  i53 := by kernel_rfl
  i212 := by kernel_rfl
  m17 := by kernel_rfl }
open Go.Lib in
/-- internal/strconv.numDigits, at a d that is not 0: THE NUMBER OF d's DECIMAL DIGITS. The world is as it was. (LAID: no walk: one application.) -/
theorem Tryz.internal_strconv_numDigits (u : Nat) (h1 : 1 ≤ u) (h2 : u < 18446744073709551616) (w : World) (htab : Lib.TabIs Tryz.prog w "internal/strconv.uint64pow10" .u64 Lib.pow10Tab) :
    Calls Tryz.prog 107 #[.int .u64 u] w fun e w' => e = .returned (.int .i64 (Lib.nDigits u)) ∧ w' = w := Any.internal_strconv_numDigits Tryz.laysM284 u h1 h2 w htab
def Tryz.lays285_ren : Go.Shelf.Ren := ⟨fun | 285 => 108 | n => n, fun | 37 => 22 | 53 => 24 | 3 => 3 | 4 => 4 | 51 => 25 | 9 => 9 | 5 => 5 | 0 => 0 | n => n, fun | n => n⟩
theorem Tryz.lays285 : Go.Proofs.Lays.n285 Tryz.prog Tryz.lays285_ren := {
  mixed := by kernel_rfl
  f285 := Tryz.func108.trans (congrArg some (by kernel_rfl))
  t0 := Tryz.underlying0
  a0 := Tryz.isAgg0
  z0 := Tryz.sizeOf0
  v0 := Tryz.zeroValue0
  t3 := Tryz.underlying3
  a3 := Tryz.isAgg3
  z3 := Tryz.sizeOf3
  v3 := Tryz.zeroValue3
  t4 := Tryz.underlying4
  a4 := Tryz.isAgg4
  z4 := Tryz.sizeOf4
  v4 := Tryz.zeroValue4
  t5 := Tryz.underlying5
  a5 := Tryz.isAgg5
  z5 := Tryz.sizeOf5
  v5 := Tryz.zeroValue5
  t9 := Tryz.underlying9
  a9 := Tryz.isAgg9
  z9 := Tryz.sizeOf9
  v9 := Tryz.zeroValue9
  t37 := Tryz.underlying22
  a37 := Tryz.isAgg22
  z37 := Tryz.sizeOf22
  v37 := Tryz.zeroValue22
  t51 := Tryz.underlying25
  a51 := Tryz.isAgg25
  z51 := Tryz.sizeOf25
  v51 := Tryz.zeroValue25
  t53 := Tryz.underlying24
  a53 := Tryz.isAgg24
  z53 := Tryz.sizeOf24
  v53 := Tryz.zeroValue24 }
open Go.RowKit Go.Sort Go.Lib in
/-- internal/strconv.formatBase10: "formatBase10 formats the decimal representation of u into a. The caller is responsible for ensuring that a is big enough to hold u. If a is too big, leading zeros will be filled in as needed.": THE ROW HOLDS u's DIGITS ('FmtInv .. 0 ..': every place t holds 'dg u (len - 1 - t)'); all else is as it was but for the count of draws. (LAID: no walk: one application.) -/
theorem Tryz.internal_strconv_formatBase10 (blk off cap : Nat) (u : Nat) (d : Array UInt8) (w : World) (hH : Holds (fun (b : UInt8) => Value.int .u8 (b.toNat : Int)) w blk off d) (hu : u < 10 ^ d.size) (hu64 : u < 18446744073709551616) (hsz : d.size < 4611686018427387904) :
    Calls Tryz.prog 108 #[.slice (some ⟨blk, off, none⟩) d.size cap, .int .u64 u] w fun e w' =>
      e = .returned (.tuple #[]) ∧ ∃ (n v' : Nat) (dk : Array UInt8), w' = (putRow (fun (b : UInt8) => Value.int .u8 (b.toNat : Int)) w blk off dk).drewN n ∧ FmtInv d.size u 0 v' dk := Any.internal_strconv_formatBase10 Tryz.lays285 blk off cap u d w hH hu hu64 hsz
def Tryz.laysM246_ren : Go.Shelf.Ren := ⟨fun | 246 => 104 | 283 => 106 | 284 => 107 | 285 => 108 | 286 => 109 | 129 => 121 | 317 => 120 | 318 => 122 | 319 => 123 | 320 => 124 | 337 => 129 | 338 => 130 | n => n, fun | 2 => 2 | 3 => 3 | 9 => 9 | 4 => 4 | 171 => 161 | 0 => 0 | 53 => 24 | 37 => 22 | 5 => 5 | 173 => 164 | 212 => 175 | 51 => 25 | 20 => 20 | 213 => 176 | 46 => 82 | 232 => 191 | 233 => 192 | n => n, fun | 17 => 1 | 18 => 4 | 19 => 5 | n => n⟩
theorem Tryz.laysM246 : Go.Proofs.LaysM.n246 Tryz.prog Tryz.laysM246_ren := {
  mixed := by kernel_rfl
  f129 := Tryz.func121.trans (congrArg some (by kernel_rfl))
  f246 := Tryz.func104.trans (congrArg some (by kernel_rfl))
  f283 := Tryz.func106.trans (congrArg some (by kernel_rfl))
  f284 := Tryz.func107.trans (congrArg some (by kernel_rfl))
  f285 := Tryz.func108.trans (congrArg some (by kernel_rfl))
  f286 := Tryz.func109.trans (congrArg some (by kernel_rfl))
  f317 := Tryz.func120.trans (congrArg some (by kernel_rfl))
  f318 := Tryz.func122.trans (congrArg some (by kernel_rfl))
  f319 := Tryz.func123.trans (congrArg some (by kernel_rfl))
  f320 := Tryz.func124.trans (congrArg some (by kernel_rfl))
  f337 := Tryz.func129.trans (congrArg some (by kernel_rfl))
  f338 := Tryz.func130.trans (congrArg some (by kernel_rfl))
  t0 := Tryz.underlying0
  a0 := Tryz.isAgg0
  z0 := Tryz.sizeOf0
  v0 := Tryz.zeroValue0
  t2 := Tryz.underlying2
  a2 := Tryz.isAgg2
  z2 := Tryz.sizeOf2
  v2 := Tryz.zeroValue2
  t3 := Tryz.underlying3
  a3 := Tryz.isAgg3
  z3 := Tryz.sizeOf3
  v3 := Tryz.zeroValue3
  t4 := Tryz.underlying4
  a4 := Tryz.isAgg4
  z4 := Tryz.sizeOf4
  v4 := Tryz.zeroValue4
  t5 := Tryz.underlying5
  a5 := Tryz.isAgg5
  z5 := Tryz.sizeOf5
  v5 := Tryz.zeroValue5
  t9 := Tryz.underlying9
  a9 := Tryz.isAgg9
  z9 := Tryz.sizeOf9
  v9 := Tryz.zeroValue9
  t20 := Tryz.underlying20
  a20 := Tryz.isAgg20
  z20 := Tryz.sizeOf20
  v20 := Tryz.zeroValue20
  t37 := Tryz.underlying22
  a37 := Tryz.isAgg22
  z37 := Tryz.sizeOf22
  v37 := Tryz.zeroValue22
  t46 := Tryz.underlying82
  a46 := Tryz.isAgg82
  z46 := Tryz.sizeOf82
  v46 := Tryz.zeroValue82
  t51 := Tryz.underlying25
  a51 := Tryz.isAgg25
  z51 := Tryz.sizeOf25
  v51 := Tryz.zeroValue25
  t53 := Tryz.underlying24
  a53 := Tryz.isAgg24
  z53 := Tryz.sizeOf24
  v53 := Tryz.zeroValue24
  t171 := Tryz.underlying161
  a171 := Tryz.isAgg161
  z171 := Tryz.sizeOf161
  v171 := Tryz.zeroValue161
  t173 := Tryz.underlying164
  a173 := Tryz.isAgg164
  z173 := Tryz.sizeOf164
  v173 := Tryz.zeroValue164
  t212 := Tryz.underlying175
  a212 := Tryz.isAgg175
  z212 := Tryz.sizeOf175
  v212 := Tryz.zeroValue175
  t213 := Tryz.underlying176
  a213 := Tryz.isAgg176
  z213 := Tryz.sizeOf176
  t232 := Tryz.underlying191
  a232 := Tryz.isAgg191
  z232 := Tryz.sizeOf191
  v232 := Tryz.zeroValue191
  t233 := Tryz.underlying192
  a233 := Tryz.isAgg192
  z233 := Tryz.sizeOf192
  v233 := Tryz.zeroValue192
  g17 := by kernel_rfl
  g18 := by kernel_rfl
  g19 := by kernel_rfl
  i0 := by kernel_rfl
  i2 := by kernel_rfl
  i3 := by kernel_rfl
  i4 := by kernel_rfl
  i5 := by kernel_rfl
  i9 := by kernel_rfl
  i20 := by kernel_rfl
  i37 := by kernel_rfl
  i46 := by kernel_rfl
  i51 := by kernel_rfl
  i53 := by kernel_rfl
  i171 := by kernel_rfl
  i173 := by kernel_rfl
  i212 := by kernel_rfl
  i232 := by kernel_rfl
  i233 := by kernel_rfl
  m17 := by kernel_rfl
  m18 := by kernel_rfl
  m19 := by kernel_rfl }
open Go.RowKit Go.Sort Go.Lib in
/-- internal/strconv.FormatInt: "FormatInt returns the string representation of i in the given base": AT BASE 10: i's decimal numeral, for every int64. The world behind the call: the world before it, new blocks behind the heap, draws. (LAID: no walk: one application.) -/
theorem Tryz.internal_strconv_FormatInt_10 (n : Int) (h0 : -9223372036854775808 ≤ n) (h1 : n ≤ 9223372036854775807) (w : World) (htab : Lib.TabIs Tryz.prog w "internal/strconv.uint64pow10" .u64 Lib.pow10Tab) :
    Calls Tryz.prog 104 #[.int .i64 n, .int .i64 10] w fun e w' => e = .returned (.string ⟨(Lib.itoa n).toArray⟩) ∧ ∃ k os, w' = grow (w.drewN k) os := Any.internal_strconv_FormatInt_10 Tryz.laysM246 n h0 h1 w htab
def Tryz.lays246_ren : Go.Shelf.Ren := ⟨fun | 246 => 104 | 283 => 106 | 284 => 107 | 285 => 108 | 286 => 109 | 129 => 121 | 317 => 120 | 318 => 122 | 319 => 123 | 320 => 124 | 337 => 129 | 338 => 130 | n => n, fun | 2 => 2 | 3 => 3 | 9 => 9 | 4 => 4 | 171 => 161 | 0 => 0 | 53 => 24 | 37 => 22 | 5 => 5 | 173 => 164 | 212 => 175 | 51 => 25 | 20 => 20 | 213 => 176 | 46 => 82 | 232 => 191 | 233 => 192 | n => n, fun | 17 => 1 | 18 => 4 | 19 => 5 | n => n⟩
theorem Tryz.lays246 : Go.Proofs.Lays.n246 Tryz.prog Tryz.lays246_ren := {
  mixed := by kernel_rfl
  f129 := Tryz.func121.trans (congrArg some (by kernel_rfl))
  f246 := Tryz.func104.trans (congrArg some (by kernel_rfl))
  f283 := Tryz.func106.trans (congrArg some (by kernel_rfl))
  f284 := Tryz.func107.trans (congrArg some (by kernel_rfl))
  f285 := Tryz.func108.trans (congrArg some (by kernel_rfl))
  f286 := Tryz.func109.trans (congrArg some (by kernel_rfl))
  f317 := Tryz.func120.trans (congrArg some (by kernel_rfl))
  f318 := Tryz.func122.trans (congrArg some (by kernel_rfl))
  f319 := Tryz.func123.trans (congrArg some (by kernel_rfl))
  f320 := Tryz.func124.trans (congrArg some (by kernel_rfl))
  f337 := Tryz.func129.trans (congrArg some (by kernel_rfl))
  f338 := Tryz.func130.trans (congrArg some (by kernel_rfl))
  t0 := Tryz.underlying0
  a0 := Tryz.isAgg0
  z0 := Tryz.sizeOf0
  v0 := Tryz.zeroValue0
  t2 := Tryz.underlying2
  a2 := Tryz.isAgg2
  z2 := Tryz.sizeOf2
  v2 := Tryz.zeroValue2
  t3 := Tryz.underlying3
  a3 := Tryz.isAgg3
  z3 := Tryz.sizeOf3
  v3 := Tryz.zeroValue3
  t4 := Tryz.underlying4
  a4 := Tryz.isAgg4
  z4 := Tryz.sizeOf4
  v4 := Tryz.zeroValue4
  t5 := Tryz.underlying5
  a5 := Tryz.isAgg5
  z5 := Tryz.sizeOf5
  v5 := Tryz.zeroValue5
  t9 := Tryz.underlying9
  a9 := Tryz.isAgg9
  z9 := Tryz.sizeOf9
  v9 := Tryz.zeroValue9
  t20 := Tryz.underlying20
  a20 := Tryz.isAgg20
  z20 := Tryz.sizeOf20
  v20 := Tryz.zeroValue20
  t37 := Tryz.underlying22
  a37 := Tryz.isAgg22
  z37 := Tryz.sizeOf22
  v37 := Tryz.zeroValue22
  t46 := Tryz.underlying82
  a46 := Tryz.isAgg82
  z46 := Tryz.sizeOf82
  v46 := Tryz.zeroValue82
  t51 := Tryz.underlying25
  a51 := Tryz.isAgg25
  z51 := Tryz.sizeOf25
  v51 := Tryz.zeroValue25
  t53 := Tryz.underlying24
  a53 := Tryz.isAgg24
  z53 := Tryz.sizeOf24
  v53 := Tryz.zeroValue24
  t171 := Tryz.underlying161
  a171 := Tryz.isAgg161
  z171 := Tryz.sizeOf161
  v171 := Tryz.zeroValue161
  t173 := Tryz.underlying164
  a173 := Tryz.isAgg164
  z173 := Tryz.sizeOf164
  v173 := Tryz.zeroValue164
  t212 := Tryz.underlying175
  a212 := Tryz.isAgg175
  z212 := Tryz.sizeOf175
  v212 := Tryz.zeroValue175
  t213 := Tryz.underlying176
  a213 := Tryz.isAgg176
  z213 := Tryz.sizeOf176
  t232 := Tryz.underlying191
  a232 := Tryz.isAgg191
  z232 := Tryz.sizeOf191
  v232 := Tryz.zeroValue191
  t233 := Tryz.underlying192
  a233 := Tryz.isAgg192
  z233 := Tryz.sizeOf192
  v233 := Tryz.zeroValue192
  g17 := by kernel_rfl
  g18 := by kernel_rfl
  g19 := by kernel_rfl }
open Go.RowKit Go.Sort Go.Lib in
/-- THE ROAD WITHOUT THE TABLE: 0 <= i < 100: two constants are read, nothing is laid: no premise on the world, and the world is as it was. (LAID: no walk: one application.) -/
theorem Tryz.internal_strconv_FormatInt_10_small (i : Nat) (hi : i < 100) (w : World) :
    Calls Tryz.prog 104 #[.int .i64 i, .int .i64 10] w fun e w' => e = .returned (.string ⟨(Lib.decDigits i).toArray⟩) ∧ w' = w := Any.internal_strconv_FormatInt_10_small Tryz.lays246 i hi w
def Tryz.laysM243_ren : Go.Shelf.Ren := ⟨fun | 243 => 92 | 246 => 104 | 283 => 106 | 284 => 107 | 285 => 108 | 286 => 109 | 129 => 121 | 317 => 120 | 318 => 122 | 319 => 123 | 320 => 124 | 337 => 129 | 338 => 130 | n => n, fun | 3 => 3 | 9 => 9 | 2 => 2 | 4 => 4 | 171 => 161 | 0 => 0 | 53 => 24 | 37 => 22 | 5 => 5 | 173 => 164 | 212 => 175 | 51 => 25 | 20 => 20 | 213 => 176 | 46 => 82 | 232 => 191 | 233 => 192 | n => n, fun | 17 => 1 | 18 => 4 | 19 => 5 | n => n⟩
theorem Tryz.laysM243 : Go.Proofs.LaysM.n243 Tryz.prog Tryz.laysM243_ren := {
  mixed := by kernel_rfl
  f129 := Tryz.func121.trans (congrArg some (by kernel_rfl))
  f243 := Tryz.func92.trans (congrArg some (by kernel_rfl))
  f246 := Tryz.func104.trans (congrArg some (by kernel_rfl))
  f283 := Tryz.func106.trans (congrArg some (by kernel_rfl))
  f284 := Tryz.func107.trans (congrArg some (by kernel_rfl))
  f285 := Tryz.func108.trans (congrArg some (by kernel_rfl))
  f286 := Tryz.func109.trans (congrArg some (by kernel_rfl))
  f317 := Tryz.func120.trans (congrArg some (by kernel_rfl))
  f318 := Tryz.func122.trans (congrArg some (by kernel_rfl))
  f319 := Tryz.func123.trans (congrArg some (by kernel_rfl))
  f320 := Tryz.func124.trans (congrArg some (by kernel_rfl))
  f337 := Tryz.func129.trans (congrArg some (by kernel_rfl))
  f338 := Tryz.func130.trans (congrArg some (by kernel_rfl))
  t0 := Tryz.underlying0
  a0 := Tryz.isAgg0
  z0 := Tryz.sizeOf0
  v0 := Tryz.zeroValue0
  t2 := Tryz.underlying2
  a2 := Tryz.isAgg2
  z2 := Tryz.sizeOf2
  v2 := Tryz.zeroValue2
  t3 := Tryz.underlying3
  a3 := Tryz.isAgg3
  z3 := Tryz.sizeOf3
  v3 := Tryz.zeroValue3
  t4 := Tryz.underlying4
  a4 := Tryz.isAgg4
  z4 := Tryz.sizeOf4
  v4 := Tryz.zeroValue4
  t5 := Tryz.underlying5
  a5 := Tryz.isAgg5
  z5 := Tryz.sizeOf5
  v5 := Tryz.zeroValue5
  t9 := Tryz.underlying9
  a9 := Tryz.isAgg9
  z9 := Tryz.sizeOf9
  v9 := Tryz.zeroValue9
  t20 := Tryz.underlying20
  a20 := Tryz.isAgg20
  z20 := Tryz.sizeOf20
  v20 := Tryz.zeroValue20
  t37 := Tryz.underlying22
  a37 := Tryz.isAgg22
  z37 := Tryz.sizeOf22
  v37 := Tryz.zeroValue22
  t46 := Tryz.underlying82
  a46 := Tryz.isAgg82
  z46 := Tryz.sizeOf82
  v46 := Tryz.zeroValue82
  t51 := Tryz.underlying25
  a51 := Tryz.isAgg25
  z51 := Tryz.sizeOf25
  v51 := Tryz.zeroValue25
  t53 := Tryz.underlying24
  a53 := Tryz.isAgg24
  z53 := Tryz.sizeOf24
  v53 := Tryz.zeroValue24
  t171 := Tryz.underlying161
  a171 := Tryz.isAgg161
  z171 := Tryz.sizeOf161
  v171 := Tryz.zeroValue161
  t173 := Tryz.underlying164
  a173 := Tryz.isAgg164
  z173 := Tryz.sizeOf164
  v173 := Tryz.zeroValue164
  t212 := Tryz.underlying175
  a212 := Tryz.isAgg175
  z212 := Tryz.sizeOf175
  v212 := Tryz.zeroValue175
  t213 := Tryz.underlying176
  a213 := Tryz.isAgg176
  z213 := Tryz.sizeOf176
  t232 := Tryz.underlying191
  a232 := Tryz.isAgg191
  z232 := Tryz.sizeOf191
  v232 := Tryz.zeroValue191
  t233 := Tryz.underlying192
  a233 := Tryz.isAgg192
  z233 := Tryz.sizeOf192
  v233 := Tryz.zeroValue192
  g17 := by kernel_rfl
  g18 := by kernel_rfl
  g19 := by kernel_rfl
  i0 := by kernel_rfl
  i2 := by kernel_rfl
  i3 := by kernel_rfl
  i4 := by kernel_rfl
  i5 := by kernel_rfl
  i9 := by kernel_rfl
  i20 := by kernel_rfl
  i37 := by kernel_rfl
  i46 := by kernel_rfl
  i51 := by kernel_rfl
  i53 := by kernel_rfl
  i171 := by kernel_rfl
  i173 := by kernel_rfl
  i212 := by kernel_rfl
  i232 := by kernel_rfl
  i233 := by kernel_rfl
  m17 := by kernel_rfl
  m18 := by kernel_rfl
  m19 := by kernel_rfl }
open Go.RowKit Go.Sort Go.Lib in
/-- internal/strconv.Itoa: "Itoa is equivalent to FormatInt(int64(i), 10).": i's decimal numeral, for every int. (LAID: no walk: one application.) -/
theorem Tryz.internal_strconv_Itoa (n : Int) (h0 : -9223372036854775808 ≤ n) (h1 : n ≤ 9223372036854775807) (w : World) (htab : Lib.TabIs Tryz.prog w "internal/strconv.uint64pow10" .u64 Lib.pow10Tab) :
    Calls Tryz.prog 92 #[.int .i64 n] w fun e w' => e = .returned (.string ⟨(Lib.itoa n).toArray⟩) ∧ ∃ k os, w' = grow (w.drewN k) os := Any.internal_strconv_Itoa Tryz.laysM243 n h0 h1 w htab
def Tryz.lays243_ren : Go.Shelf.Ren := ⟨fun | 243 => 92 | 246 => 104 | 283 => 106 | 284 => 107 | 285 => 108 | 286 => 109 | 129 => 121 | 317 => 120 | 318 => 122 | 319 => 123 | 320 => 124 | 337 => 129 | 338 => 130 | n => n, fun | 3 => 3 | 9 => 9 | 2 => 2 | 4 => 4 | 171 => 161 | 0 => 0 | 53 => 24 | 37 => 22 | 5 => 5 | 173 => 164 | 212 => 175 | 51 => 25 | 20 => 20 | 213 => 176 | 46 => 82 | 232 => 191 | 233 => 192 | n => n, fun | 17 => 1 | 18 => 4 | 19 => 5 | n => n⟩
theorem Tryz.lays243 : Go.Proofs.Lays.n243 Tryz.prog Tryz.lays243_ren := {
  mixed := by kernel_rfl
  f129 := Tryz.func121.trans (congrArg some (by kernel_rfl))
  f243 := Tryz.func92.trans (congrArg some (by kernel_rfl))
  f246 := Tryz.func104.trans (congrArg some (by kernel_rfl))
  f283 := Tryz.func106.trans (congrArg some (by kernel_rfl))
  f284 := Tryz.func107.trans (congrArg some (by kernel_rfl))
  f285 := Tryz.func108.trans (congrArg some (by kernel_rfl))
  f286 := Tryz.func109.trans (congrArg some (by kernel_rfl))
  f317 := Tryz.func120.trans (congrArg some (by kernel_rfl))
  f318 := Tryz.func122.trans (congrArg some (by kernel_rfl))
  f319 := Tryz.func123.trans (congrArg some (by kernel_rfl))
  f320 := Tryz.func124.trans (congrArg some (by kernel_rfl))
  f337 := Tryz.func129.trans (congrArg some (by kernel_rfl))
  f338 := Tryz.func130.trans (congrArg some (by kernel_rfl))
  t0 := Tryz.underlying0
  a0 := Tryz.isAgg0
  z0 := Tryz.sizeOf0
  v0 := Tryz.zeroValue0
  t2 := Tryz.underlying2
  a2 := Tryz.isAgg2
  z2 := Tryz.sizeOf2
  v2 := Tryz.zeroValue2
  t3 := Tryz.underlying3
  a3 := Tryz.isAgg3
  z3 := Tryz.sizeOf3
  v3 := Tryz.zeroValue3
  t4 := Tryz.underlying4
  a4 := Tryz.isAgg4
  z4 := Tryz.sizeOf4
  v4 := Tryz.zeroValue4
  t5 := Tryz.underlying5
  a5 := Tryz.isAgg5
  z5 := Tryz.sizeOf5
  v5 := Tryz.zeroValue5
  t9 := Tryz.underlying9
  a9 := Tryz.isAgg9
  z9 := Tryz.sizeOf9
  v9 := Tryz.zeroValue9
  t20 := Tryz.underlying20
  a20 := Tryz.isAgg20
  z20 := Tryz.sizeOf20
  v20 := Tryz.zeroValue20
  t37 := Tryz.underlying22
  a37 := Tryz.isAgg22
  z37 := Tryz.sizeOf22
  v37 := Tryz.zeroValue22
  t46 := Tryz.underlying82
  a46 := Tryz.isAgg82
  z46 := Tryz.sizeOf82
  v46 := Tryz.zeroValue82
  t51 := Tryz.underlying25
  a51 := Tryz.isAgg25
  z51 := Tryz.sizeOf25
  v51 := Tryz.zeroValue25
  t53 := Tryz.underlying24
  a53 := Tryz.isAgg24
  z53 := Tryz.sizeOf24
  v53 := Tryz.zeroValue24
  t171 := Tryz.underlying161
  a171 := Tryz.isAgg161
  z171 := Tryz.sizeOf161
  v171 := Tryz.zeroValue161
  t173 := Tryz.underlying164
  a173 := Tryz.isAgg164
  z173 := Tryz.sizeOf164
  v173 := Tryz.zeroValue164
  t212 := Tryz.underlying175
  a212 := Tryz.isAgg175
  z212 := Tryz.sizeOf175
  v212 := Tryz.zeroValue175
  t213 := Tryz.underlying176
  a213 := Tryz.isAgg176
  z213 := Tryz.sizeOf176
  t232 := Tryz.underlying191
  a232 := Tryz.isAgg191
  z232 := Tryz.sizeOf191
  v232 := Tryz.zeroValue191
  t233 := Tryz.underlying192
  a233 := Tryz.isAgg192
  z233 := Tryz.sizeOf192
  v233 := Tryz.zeroValue192
  g17 := by kernel_rfl
  g18 := by kernel_rfl
  g19 := by kernel_rfl }
open Go.RowKit Go.Sort Go.Lib in
/-- THE ROAD WITHOUT THE TABLE: 0 <= i < 100. (LAID: no walk: one application.) -/
theorem Tryz.internal_strconv_Itoa_small (i : Nat) (hi : i < 100) (w : World) :
    Calls Tryz.prog 92 #[.int .i64 i] w fun e w' => e = .returned (.string ⟨(Lib.decDigits i).toArray⟩) ∧ w' = w := Any.internal_strconv_Itoa_small Tryz.lays243 i hi w
def Tryz.laysM171_ren : Go.Shelf.Ren := ⟨fun | 171 => 60 | 243 => 92 | 246 => 104 | 283 => 106 | 284 => 107 | 285 => 108 | 286 => 109 | 129 => 121 | 317 => 120 | 318 => 122 | 319 => 123 | 320 => 124 | 337 => 129 | 338 => 130 | n => n, fun | 3 => 3 | 9 => 9 | 2 => 2 | 4 => 4 | 171 => 161 | 0 => 0 | 53 => 24 | 37 => 22 | 5 => 5 | 173 => 164 | 212 => 175 | 51 => 25 | 20 => 20 | 213 => 176 | 46 => 82 | 232 => 191 | 233 => 192 | n => n, fun | 17 => 1 | 18 => 4 | 19 => 5 | n => n⟩
theorem Tryz.laysM171 : Go.Proofs.LaysM.n171 Tryz.prog Tryz.laysM171_ren := {
  mixed := by kernel_rfl
  f129 := Tryz.func121.trans (congrArg some (by kernel_rfl))
  f171 := Tryz.func60.trans (congrArg some (by kernel_rfl))
  f243 := Tryz.func92.trans (congrArg some (by kernel_rfl))
  f246 := Tryz.func104.trans (congrArg some (by kernel_rfl))
  f283 := Tryz.func106.trans (congrArg some (by kernel_rfl))
  f284 := Tryz.func107.trans (congrArg some (by kernel_rfl))
  f285 := Tryz.func108.trans (congrArg some (by kernel_rfl))
  f286 := Tryz.func109.trans (congrArg some (by kernel_rfl))
  f317 := Tryz.func120.trans (congrArg some (by kernel_rfl))
  f318 := Tryz.func122.trans (congrArg some (by kernel_rfl))
  f319 := Tryz.func123.trans (congrArg some (by kernel_rfl))
  f320 := Tryz.func124.trans (congrArg some (by kernel_rfl))
  f337 := Tryz.func129.trans (congrArg some (by kernel_rfl))
  f338 := Tryz.func130.trans (congrArg some (by kernel_rfl))
  t0 := Tryz.underlying0
  a0 := Tryz.isAgg0
  z0 := Tryz.sizeOf0
  v0 := Tryz.zeroValue0
  t2 := Tryz.underlying2
  a2 := Tryz.isAgg2
  z2 := Tryz.sizeOf2
  v2 := Tryz.zeroValue2
  t3 := Tryz.underlying3
  a3 := Tryz.isAgg3
  z3 := Tryz.sizeOf3
  v3 := Tryz.zeroValue3
  t4 := Tryz.underlying4
  a4 := Tryz.isAgg4
  z4 := Tryz.sizeOf4
  v4 := Tryz.zeroValue4
  t5 := Tryz.underlying5
  a5 := Tryz.isAgg5
  z5 := Tryz.sizeOf5
  v5 := Tryz.zeroValue5
  t9 := Tryz.underlying9
  a9 := Tryz.isAgg9
  z9 := Tryz.sizeOf9
  v9 := Tryz.zeroValue9
  t20 := Tryz.underlying20
  a20 := Tryz.isAgg20
  z20 := Tryz.sizeOf20
  v20 := Tryz.zeroValue20
  t37 := Tryz.underlying22
  a37 := Tryz.isAgg22
  z37 := Tryz.sizeOf22
  v37 := Tryz.zeroValue22
  t46 := Tryz.underlying82
  a46 := Tryz.isAgg82
  z46 := Tryz.sizeOf82
  v46 := Tryz.zeroValue82
  t51 := Tryz.underlying25
  a51 := Tryz.isAgg25
  z51 := Tryz.sizeOf25
  v51 := Tryz.zeroValue25
  t53 := Tryz.underlying24
  a53 := Tryz.isAgg24
  z53 := Tryz.sizeOf24
  v53 := Tryz.zeroValue24
  t171 := Tryz.underlying161
  a171 := Tryz.isAgg161
  z171 := Tryz.sizeOf161
  v171 := Tryz.zeroValue161
  t173 := Tryz.underlying164
  a173 := Tryz.isAgg164
  z173 := Tryz.sizeOf164
  v173 := Tryz.zeroValue164
  t212 := Tryz.underlying175
  a212 := Tryz.isAgg175
  z212 := Tryz.sizeOf175
  v212 := Tryz.zeroValue175
  t213 := Tryz.underlying176
  a213 := Tryz.isAgg176
  z213 := Tryz.sizeOf176
  t232 := Tryz.underlying191
  a232 := Tryz.isAgg191
  z232 := Tryz.sizeOf191
  v232 := Tryz.zeroValue191
  t233 := Tryz.underlying192
  a233 := Tryz.isAgg192
  z233 := Tryz.sizeOf192
  v233 := Tryz.zeroValue192
  g17 := by kernel_rfl
  g18 := by kernel_rfl
  g19 := by kernel_rfl
  i0 := by kernel_rfl
  i2 := by kernel_rfl
  i3 := by kernel_rfl
  i4 := by kernel_rfl
  i5 := by kernel_rfl
  i9 := by kernel_rfl
  i20 := by kernel_rfl
  i37 := by kernel_rfl
  i46 := by kernel_rfl
  i51 := by kernel_rfl
  i53 := by kernel_rfl
  i171 := by kernel_rfl
  i173 := by kernel_rfl
  i212 := by kernel_rfl
  i232 := by kernel_rfl
  i233 := by kernel_rfl
  m17 := by kernel_rfl
  m18 := by kernel_rfl
  m19 := by kernel_rfl }
open Go.RowKit Go.Sort Go.Lib in
/-- strconv.Itoa: "Itoa is equivalent to FormatInt(int64(i), 10).": i's DECIMAL NUMERAL ('Lib.itoa': a '-' where i is negative, then the digits), FOR EVERY int. The world behind the call: the world before it, new blocks behind the heap (the library's 'var a [24]byte'), draws. (LAID: no walk: one application.) -/
theorem Tryz.strconv_Itoa (n : Int) (h0 : -9223372036854775808 ≤ n) (h1 : n ≤ 9223372036854775807) (w : World) (htab : Lib.TabIs Tryz.prog w "internal/strconv.uint64pow10" .u64 Lib.pow10Tab) :
    Calls Tryz.prog 60 #[.int .i64 n] w fun e w' => e = .returned (.string ⟨(Lib.itoa n).toArray⟩) ∧ ∃ k os, w' = grow (w.drewN k) os := Any.strconv_Itoa Tryz.laysM171 n h0 h1 w htab
def Tryz.lays171_ren : Go.Shelf.Ren := ⟨fun | 171 => 60 | 243 => 92 | 246 => 104 | 283 => 106 | 284 => 107 | 285 => 108 | 286 => 109 | 129 => 121 | 317 => 120 | 318 => 122 | 319 => 123 | 320 => 124 | 337 => 129 | 338 => 130 | n => n, fun | 3 => 3 | 9 => 9 | 2 => 2 | 4 => 4 | 171 => 161 | 0 => 0 | 53 => 24 | 37 => 22 | 5 => 5 | 173 => 164 | 212 => 175 | 51 => 25 | 20 => 20 | 213 => 176 | 46 => 82 | 232 => 191 | 233 => 192 | n => n, fun | 17 => 1 | 18 => 4 | 19 => 5 | n => n⟩
theorem Tryz.lays171 : Go.Proofs.Lays.n171 Tryz.prog Tryz.lays171_ren := {
  mixed := by kernel_rfl
  f129 := Tryz.func121.trans (congrArg some (by kernel_rfl))
  f171 := Tryz.func60.trans (congrArg some (by kernel_rfl))
  f243 := Tryz.func92.trans (congrArg some (by kernel_rfl))
  f246 := Tryz.func104.trans (congrArg some (by kernel_rfl))
  f283 := Tryz.func106.trans (congrArg some (by kernel_rfl))
  f284 := Tryz.func107.trans (congrArg some (by kernel_rfl))
  f285 := Tryz.func108.trans (congrArg some (by kernel_rfl))
  f286 := Tryz.func109.trans (congrArg some (by kernel_rfl))
  f317 := Tryz.func120.trans (congrArg some (by kernel_rfl))
  f318 := Tryz.func122.trans (congrArg some (by kernel_rfl))
  f319 := Tryz.func123.trans (congrArg some (by kernel_rfl))
  f320 := Tryz.func124.trans (congrArg some (by kernel_rfl))
  f337 := Tryz.func129.trans (congrArg some (by kernel_rfl))
  f338 := Tryz.func130.trans (congrArg some (by kernel_rfl))
  t0 := Tryz.underlying0
  a0 := Tryz.isAgg0
  z0 := Tryz.sizeOf0
  v0 := Tryz.zeroValue0
  t2 := Tryz.underlying2
  a2 := Tryz.isAgg2
  z2 := Tryz.sizeOf2
  v2 := Tryz.zeroValue2
  t3 := Tryz.underlying3
  a3 := Tryz.isAgg3
  z3 := Tryz.sizeOf3
  v3 := Tryz.zeroValue3
  t4 := Tryz.underlying4
  a4 := Tryz.isAgg4
  z4 := Tryz.sizeOf4
  v4 := Tryz.zeroValue4
  t5 := Tryz.underlying5
  a5 := Tryz.isAgg5
  z5 := Tryz.sizeOf5
  v5 := Tryz.zeroValue5
  t9 := Tryz.underlying9
  a9 := Tryz.isAgg9
  z9 := Tryz.sizeOf9
  v9 := Tryz.zeroValue9
  t20 := Tryz.underlying20
  a20 := Tryz.isAgg20
  z20 := Tryz.sizeOf20
  v20 := Tryz.zeroValue20
  t37 := Tryz.underlying22
  a37 := Tryz.isAgg22
  z37 := Tryz.sizeOf22
  v37 := Tryz.zeroValue22
  t46 := Tryz.underlying82
  a46 := Tryz.isAgg82
  z46 := Tryz.sizeOf82
  v46 := Tryz.zeroValue82
  t51 := Tryz.underlying25
  a51 := Tryz.isAgg25
  z51 := Tryz.sizeOf25
  v51 := Tryz.zeroValue25
  t53 := Tryz.underlying24
  a53 := Tryz.isAgg24
  z53 := Tryz.sizeOf24
  v53 := Tryz.zeroValue24
  t171 := Tryz.underlying161
  a171 := Tryz.isAgg161
  z171 := Tryz.sizeOf161
  v171 := Tryz.zeroValue161
  t173 := Tryz.underlying164
  a173 := Tryz.isAgg164
  z173 := Tryz.sizeOf164
  v173 := Tryz.zeroValue164
  t212 := Tryz.underlying175
  a212 := Tryz.isAgg175
  z212 := Tryz.sizeOf175
  v212 := Tryz.zeroValue175
  t213 := Tryz.underlying176
  a213 := Tryz.isAgg176
  z213 := Tryz.sizeOf176
  t232 := Tryz.underlying191
  a232 := Tryz.isAgg191
  z232 := Tryz.sizeOf191
  v232 := Tryz.zeroValue191
  t233 := Tryz.underlying192
  a233 := Tryz.isAgg192
  z233 := Tryz.sizeOf192
  v233 := Tryz.zeroValue192
  g17 := by kernel_rfl
  g18 := by kernel_rfl
  g19 := by kernel_rfl }
open Go.RowKit Go.Sort Go.Lib in
/-- THE ROAD WITHOUT THE TABLE: 0 <= i < 100: NO PREMISE ON THE WORLD, AND THE WORLD IS AS IT WAS: a row that keeps its argument in that range need list no table ('laid = []'). (LAID: no walk: one application.) -/
theorem Tryz.strconv_Itoa_small (i : Nat) (hi : i < 100) (w : World) :
    Calls Tryz.prog 60 #[.int .i64 i] w fun e w' => e = .returned (.string ⟨(Lib.decDigits i).toArray⟩) ∧ w' = w := Any.strconv_Itoa_small Tryz.lays171 i hi w
def Tryz.laysM316_ren : Go.Shelf.Ren := ⟨fun | 316 => 127 | n => n, fun | 9 => 9 | 3 => 3 | 4 => 4 | 37 => 22 | 0 => 0 | 127 => 187 | 5 => 5 | n => n, fun | n => n⟩
theorem Tryz.laysM316 : Go.Proofs.LaysM.n316 Tryz.prog Tryz.laysM316_ren := {
  mixed := by kernel_rfl
  f316 := Tryz.func127.trans (congrArg some (by kernel_rfl))
  t0 := Tryz.underlying0
  a0 := Tryz.isAgg0
  z0 := Tryz.sizeOf0
  v0 := Tryz.zeroValue0
  t3 := Tryz.underlying3
  a3 := Tryz.isAgg3
  z3 := Tryz.sizeOf3
  v3 := Tryz.zeroValue3
  t4 := Tryz.underlying4
  a4 := Tryz.isAgg4
  z4 := Tryz.sizeOf4
  v4 := Tryz.zeroValue4
  t9 := Tryz.underlying9
  a9 := Tryz.isAgg9
  z9 := Tryz.sizeOf9
  v9 := Tryz.zeroValue9
  t37 := Tryz.underlying22
  a37 := Tryz.isAgg22
  z37 := Tryz.sizeOf22
  v37 := Tryz.zeroValue22
  t127 := Tryz.underlying187
  a127 := Tryz.isAgg187
  z127 := Tryz.sizeOf187
  v127 := Tryz.zeroValue187
  t5 := Tryz.underlying5
  a5 := Tryz.isAgg5
  z5 := Tryz.sizeOf5
  v5 := Tryz.zeroValue5
  i0 := by kernel_rfl
  i3 := by kernel_rfl
  i4 := by kernel_rfl
  i5 := by kernel_rfl
  i9 := by kernel_rfl
  i37 := by kernel_rfl
  i127 := by kernel_rfl }
open Go.RowKit in
/-- internal/stringslite.Clone (what strings.Clone calls): "Clone returns a fresh copy of s.": THE SAME BYTES. Of what was there nothing has turned (a new row is laid, and frozen, where s is not empty). (LAID: no walk: one application.) -/
theorem Tryz.stringslite_Clone (s : ByteArray) (w : World) (hlim : s.size ≤ 281474976710656) :
    Calls Tryz.prog 127 #[.string s] w fun e w' => e = .returned (.string s) ∧ Below w.heap.size w w' := Any.stringslite_Clone Tryz.laysM316 s w hlim
def Tryz.laysM279_ren : Go.Shelf.Ren := ⟨fun | 279 => 114 | 316 => 127 | n => n, fun | 9 => 9 | 168 => 168 | 75 => 130 | 210 => 183 | 3 => 3 | 4 => 4 | 37 => 22 | 0 => 0 | 127 => 187 | 80 => 195 | 5 => 5 | n => n, fun | 15 => 2 | n => n⟩
theorem Tryz.laysM279 : Go.Proofs.LaysM.n279 Tryz.prog Tryz.laysM279_ren := {
  mixed := by kernel_rfl
  f279 := Tryz.func114.trans (congrArg some (by kernel_rfl))
  f316 := Tryz.func127.trans (congrArg some (by kernel_rfl))
  t0 := Tryz.underlying0
  a0 := Tryz.isAgg0
  z0 := Tryz.sizeOf0
  v0 := Tryz.zeroValue0
  t3 := Tryz.underlying3
  a3 := Tryz.isAgg3
  z3 := Tryz.sizeOf3
  v3 := Tryz.zeroValue3
  t4 := Tryz.underlying4
  a4 := Tryz.isAgg4
  z4 := Tryz.sizeOf4
  v4 := Tryz.zeroValue4
  t9 := Tryz.underlying9
  a9 := Tryz.isAgg9
  z9 := Tryz.sizeOf9
  v9 := Tryz.zeroValue9
  t37 := Tryz.underlying22
  a37 := Tryz.isAgg22
  z37 := Tryz.sizeOf22
  v37 := Tryz.zeroValue22
  t75 := Tryz.underlying130
  a75 := Tryz.isAgg130
  z75 := Tryz.sizeOf130
  v75 := Tryz.zeroValue130
  t127 := Tryz.underlying187
  a127 := Tryz.isAgg187
  z127 := Tryz.sizeOf187
  v127 := Tryz.zeroValue187
  t168 := Tryz.underlying168
  a168 := Tryz.isAgg168
  z168 := Tryz.sizeOf168
  v168 := Tryz.zeroValue168
  t210 := Tryz.underlying183
  a210 := Tryz.isAgg183
  z210 := Tryz.sizeOf183
  v210 := Tryz.zeroValue183
  g15 := by kernel_rfl
  t5 := Tryz.underlying5
  a5 := Tryz.isAgg5
  z5 := Tryz.sizeOf5
  v5 := Tryz.zeroValue5
  t80 := Tryz.underlying195
  a80 := Tryz.isAgg195
  z80 := Tryz.sizeOf195
  v80 := Tryz.zeroValue195
  i0 := by kernel_rfl
  i3 := by kernel_rfl
  i4 := by kernel_rfl
  i5 := by kernel_rfl
  i9 := by kernel_rfl
  i37 := by kernel_rfl
  i75 := by kernel_rfl
  i80 := by kernel_rfl
  i127 := by kernel_rfl
  i168 := by kernel_rfl
  i210 := by kernel_rfl
  m15 := by kernel_rfl }
open Go.RowKit in
/-- strconv.syntaxError: '&NumError{fn, stringslite.Clone(str), ErrSyntax}': A POINTER TO A NEW BLOCK that holds fn, str's bytes, and what the variable ErrSyntax holds. Of what was there nothing has turned. (LAID: no walk: one application.) -/
theorem Tryz.strconv_syntaxError (fn s : ByteArray) (ev : Value) (w : World) (hlim : s.size ≤ 281474976710656) (hv : w.cell? ⟨2, 0, none⟩ = some ev) (hev : ev = .nilIface ∨ ∃ te pe, ev = .iface te pe) :
    Calls Tryz.prog 114 #[.string fn, .string s] w fun e w' => ∃ N, e = .returned (.pointer (some ⟨N, 0, none⟩)) ∧ w.heap.size ≤ N ∧ w'.heap[N]? = some (.cells #[.string fn, .string s, ev] 183 (0, 0)) ∧ Below w.heap.size w w' := Any.strconv_syntaxError Tryz.laysM279 fn s ev w hlim hv hev
def Tryz.laysC245_ren : Go.Shelf.Ren := ⟨fun | 245 => 100 | 279 => 114 | 280 => 115 | 281 => 116 | 282 => 117 | 316 => 127 | 171 => 60 | 205 => 128 | 243 => 92 | 246 => 104 | 283 => 106 | 284 => 107 | 285 => 108 | 286 => 109 | 129 => 121 | 317 => 120 | 318 => 122 | 319 => 123 | 320 => 124 | 337 => 129 | 338 => 130 | n => n, fun | 9 => 9 | 3 => 3 | 75 => 130 | 167 => 166 | 4 => 4 | 168 => 168 | 210 => 183 | 37 => 22 | 0 => 0 | 127 => 187 | 145 => 190 | 143 => 188 | 2 => 2 | 171 => 161 | 53 => 24 | 5 => 5 | 173 => 164 | 212 => 175 | 51 => 25 | 20 => 20 | 213 => 176 | 46 => 82 | 232 => 191 | 233 => 192 | 80 => 195 | n => n, fun | 15 => 2 | 16 => 3 | 17 => 1 | 18 => 4 | 19 => 5 | n => n⟩
theorem Tryz.laysC245 : Go.Proofs.LaysC.n245 Tryz.prog Tryz.laysC245_ren := {
  mixed := by kernel_rfl
  f129 := Tryz.func121.trans (congrArg some (by kernel_rfl))
  f171 := Tryz.func60.trans (congrArg some (by kernel_rfl))
  f205 := Tryz.func128.trans (congrArg some (by kernel_rfl))
  f243 := Tryz.func92.trans (congrArg some (by kernel_rfl))
  f245 := Tryz.func100.trans (congrArg some (by kernel_rfl))
  f246 := Tryz.func104.trans (congrArg some (by kernel_rfl))
  f279 := Tryz.func114.trans (congrArg some (by kernel_rfl))
  f280 := Tryz.func115.trans (congrArg some (by kernel_rfl))
  f281 := Tryz.func116.trans (congrArg some (by kernel_rfl))
  f282 := Tryz.func117.trans (congrArg some (by kernel_rfl))
  f283 := Tryz.func106.trans (congrArg some (by kernel_rfl))
  f284 := Tryz.func107.trans (congrArg some (by kernel_rfl))
  f285 := Tryz.func108.trans (congrArg some (by kernel_rfl))
  f286 := Tryz.func109.trans (congrArg some (by kernel_rfl))
  f316 := Tryz.func127.trans (congrArg some (by kernel_rfl))
  f317 := Tryz.func120.trans (congrArg some (by kernel_rfl))
  f318 := Tryz.func122.trans (congrArg some (by kernel_rfl))
  f319 := Tryz.func123.trans (congrArg some (by kernel_rfl))
  f320 := Tryz.func124.trans (congrArg some (by kernel_rfl))
  f337 := Tryz.func129.trans (congrArg some (by kernel_rfl))
  f338 := Tryz.func130.trans (congrArg some (by kernel_rfl))
  t0 := Tryz.underlying0
  a0 := Tryz.isAgg0
  z0 := Tryz.sizeOf0
  v0 := Tryz.zeroValue0
  t2 := Tryz.underlying2
  a2 := Tryz.isAgg2
  z2 := Tryz.sizeOf2
  v2 := Tryz.zeroValue2
  t3 := Tryz.underlying3
  a3 := Tryz.isAgg3
  z3 := Tryz.sizeOf3
  v3 := Tryz.zeroValue3
  t4 := Tryz.underlying4
  a4 := Tryz.isAgg4
  z4 := Tryz.sizeOf4
  v4 := Tryz.zeroValue4
  t5 := Tryz.underlying5
  a5 := Tryz.isAgg5
  z5 := Tryz.sizeOf5
  v5 := Tryz.zeroValue5
  t9 := Tryz.underlying9
  a9 := Tryz.isAgg9
  z9 := Tryz.sizeOf9
  v9 := Tryz.zeroValue9
  t20 := Tryz.underlying20
  a20 := Tryz.isAgg20
  z20 := Tryz.sizeOf20
  v20 := Tryz.zeroValue20
  t37 := Tryz.underlying22
  a37 := Tryz.isAgg22
  z37 := Tryz.sizeOf22
  v37 := Tryz.zeroValue22
  t46 := Tryz.underlying82
  a46 := Tryz.isAgg82
  z46 := Tryz.sizeOf82
  v46 := Tryz.zeroValue82
  t51 := Tryz.underlying25
  a51 := Tryz.isAgg25
  z51 := Tryz.sizeOf25
  v51 := Tryz.zeroValue25
  t53 := Tryz.underlying24
  a53 := Tryz.isAgg24
  z53 := Tryz.sizeOf24
  v53 := Tryz.zeroValue24
  t75 := Tryz.underlying130
  a75 := Tryz.isAgg130
  z75 := Tryz.sizeOf130
  v75 := Tryz.zeroValue130
  t127 := Tryz.underlying187
  a127 := Tryz.isAgg187
  z127 := Tryz.sizeOf187
  v127 := Tryz.zeroValue187
  t143 := Tryz.underlying188
  a143 := Tryz.isAgg188
  z143 := Tryz.sizeOf188
  v143 := Tryz.zeroValue188
  t145 := Tryz.underlying190
  a145 := Tryz.isAgg190
  z145 := Tryz.sizeOf190
  v145 := Tryz.zeroValue190
  t167 := Tryz.underlying166
  a167 := Tryz.isAgg166
  z167 := Tryz.sizeOf166
  v167 := Tryz.zeroValue166
  t168 := Tryz.underlying168
  a168 := Tryz.isAgg168
  z168 := Tryz.sizeOf168
  v168 := Tryz.zeroValue168
  t171 := Tryz.underlying161
  a171 := Tryz.isAgg161
  z171 := Tryz.sizeOf161
  v171 := Tryz.zeroValue161
  t173 := Tryz.underlying164
  a173 := Tryz.isAgg164
  z173 := Tryz.sizeOf164
  v173 := Tryz.zeroValue164
  t210 := Tryz.underlying183
  a210 := Tryz.isAgg183
  z210 := Tryz.sizeOf183
  v210 := Tryz.zeroValue183
  t212 := Tryz.underlying175
  a212 := Tryz.isAgg175
  z212 := Tryz.sizeOf175
  v212 := Tryz.zeroValue175
  t213 := Tryz.underlying176
  a213 := Tryz.isAgg176
  z213 := Tryz.sizeOf176
  t232 := Tryz.underlying191
  a232 := Tryz.isAgg191
  z232 := Tryz.sizeOf191
  v232 := Tryz.zeroValue191
  t233 := Tryz.underlying192
  a233 := Tryz.isAgg192
  z233 := Tryz.sizeOf192
  v233 := Tryz.zeroValue192
  g15 := by kernel_rfl
  g16 := by kernel_rfl
  g17 := by kernel_rfl
  g18 := by kernel_rfl
  g19 := by kernel_rfl
  t80 := Tryz.underlying195
  a80 := Tryz.isAgg195
  z80 := Tryz.sizeOf195
  v80 := Tryz.zeroValue195
  i0 := by kernel_rfl
  i2 := by kernel_rfl
  i3 := by kernel_rfl
  i4 := by kernel_rfl
  i5 := by kernel_rfl
  i9 := by kernel_rfl
  i20 := by kernel_rfl
  i37 := by kernel_rfl
  i46 := by kernel_rfl
  i51 := by kernel_rfl
  i53 := by kernel_rfl
  i75 := by kernel_rfl
  i80 := by kernel_rfl
  i127 := by kernel_rfl
  i143 := by kernel_rfl
  i145 := by kernel_rfl
  i167 := by kernel_rfl
  i168 := by kernel_rfl
  i171 := by kernel_rfl
  i173 := by kernel_rfl
  i210 := by kernel_rfl
  i212 := by kernel_rfl
  i232 := by kernel_rfl
  i233 := by kernel_rfl
  m15 := by kernel_rfl
  m16 := by kernel_rfl
  m17 := by kernel_rfl
  m18 := by kernel_rfl
  m19 := by kernel_rfl
  c0 := by kernel_rfl
  c2 := by kernel_rfl
  c3 := by kernel_rfl
  c4 := by kernel_rfl
  c5 := by kernel_rfl
  c9 := by kernel_rfl
  c20 := by kernel_rfl
  c37 := by kernel_rfl
  c46 := by kernel_rfl
  c51 := by kernel_rfl
  c53 := by kernel_rfl
  c75 := by kernel_rfl
  c80 := by kernel_rfl
  c127 := by kernel_rfl
  c143 := by kernel_rfl
  c145 := by kernel_rfl
  c167 := by kernel_rfl
  c168 := by kernel_rfl
  c171 := by kernel_rfl
  c173 := by kernel_rfl
  c210 := by kernel_rfl
  c212 := by kernel_rfl
  c213 := by kernel_rfl
  c232 := by kernel_rfl
  c233 := by kernel_rfl }
open Go.RowKit in
/-- strconv.toError, at the inner package's ErrSyntax: 'syntaxError(fn, s)' as an error: A *NumError IN A NEW BLOCK. (LAID: no walk: one application.) -/
theorem Tryz.strconv_toError_syntax (fn s : ByteArray) (base bits : Int) (ev : Value) (w : World) (hlim : s.size ≤ 281474976710656) (hv : w.cell? ⟨2, 0, none⟩ = some ev) (hev : ev = .nilIface ∨ ∃ te pe, ev = .iface te pe) :
    Calls Tryz.prog 100 #[.string fn, .string s, .int .i64 base, .int .i64 bits, .iface 166 (.int .i64 2)] w fun e w' => ∃ N, e = .returned (.iface 168 (.pointer (some ⟨N, 0, none⟩))) ∧ w.heap.size ≤ N ∧ w'.heap[N]? = some (.cells #[.string fn, .string s, ev] 183 (0, 0)) ∧ Below w.heap.size w w' := Any.strconv_toError_syntax Tryz.laysC245 fn s base bits ev w hlim hv hev
def Tryz.lays287_ren : Go.Shelf.Ren := ⟨fun | 287 => 99 | 321 => 112 | 322 => 113 | n => n, fun | 9 => 9 | 3 => 3 | 53 => 24 | 75 => 130 | 4 => 4 | 167 => 166 | 5 => 5 | 46 => 82 | 37 => 22 | 0 => 0 | 21 => 21 | 80 => 195 | n => n, fun | n => n⟩
theorem Tryz.lays287 : Go.Proofs.Lays.n287 Tryz.prog Tryz.lays287_ren := {
  mixed := by kernel_rfl
  f287 := Tryz.func99.trans (congrArg some (by kernel_rfl))
  f321 := Tryz.func112.trans (congrArg some (by kernel_rfl))
  f322 := Tryz.func113.trans (congrArg some (by kernel_rfl))
  t0 := Tryz.underlying0
  a0 := Tryz.isAgg0
  z0 := Tryz.sizeOf0
  v0 := Tryz.zeroValue0
  t3 := Tryz.underlying3
  a3 := Tryz.isAgg3
  z3 := Tryz.sizeOf3
  v3 := Tryz.zeroValue3
  t4 := Tryz.underlying4
  a4 := Tryz.isAgg4
  z4 := Tryz.sizeOf4
  v4 := Tryz.zeroValue4
  t5 := Tryz.underlying5
  a5 := Tryz.isAgg5
  z5 := Tryz.sizeOf5
  v5 := Tryz.zeroValue5
  t9 := Tryz.underlying9
  a9 := Tryz.isAgg9
  z9 := Tryz.sizeOf9
  v9 := Tryz.zeroValue9
  t21 := Tryz.underlying21
  a21 := Tryz.isAgg21
  z21 := Tryz.sizeOf21
  v21 := Tryz.zeroValue21
  t37 := Tryz.underlying22
  a37 := Tryz.isAgg22
  z37 := Tryz.sizeOf22
  v37 := Tryz.zeroValue22
  t46 := Tryz.underlying82
  a46 := Tryz.isAgg82
  z46 := Tryz.sizeOf82
  v46 := Tryz.zeroValue82
  t53 := Tryz.underlying24
  a53 := Tryz.isAgg24
  z53 := Tryz.sizeOf24
  v53 := Tryz.zeroValue24
  t75 := Tryz.underlying130
  a75 := Tryz.isAgg130
  z75 := Tryz.sizeOf130
  v75 := Tryz.zeroValue130
  t167 := Tryz.underlying166
  a167 := Tryz.isAgg166
  z167 := Tryz.sizeOf166
  v167 := Tryz.zeroValue166 }
open Go.RowKit in
/-- internal/strconv.ParseUint(s, 10, 0), s NOT EMPTY: 'Lib.parseUint10 0' OF ITS BYTES: the number; or (0, ErrSyntax); or (the greatest uint64, ErrRange). The world behind the call: the one new row that '[]byte(s)' lays. (LAID: no walk: one application.) -/
theorem Tryz.internal_strconv_ParseUint_10 (t : ByteArray) (hne : t.size ≠ 0) (hmax : t.size ≤ 9223372036854775806) (w : World) :
    Calls Tryz.prog 99 #[.string t, .int .i64 10, .int .i64 0] w fun e w' => e = .returned (Lib.uintTuple 166 (Lib.parseUint10 0 t.data.toList)) ∧ w' = Lib.bytesWorld w 5 t := Any.internal_strconv_ParseUint_10 Tryz.lays287 t hne hmax w
open Go.RowKit in
/-- internal/strconv.ParseUint(s, 10, 0): 'Lib.parseMag' OF ITS BYTES. The world: as it was (the empty string), or with the one new row that '[]byte(s)' lays. (LAID: no walk: one application.) -/
theorem Tryz.internal_strconv_ParseUint_10_any (t : ByteArray) (hmax : t.size ≤ 9223372036854775806) (w : World) :
    Calls Tryz.prog 99 #[.string t, .int .i64 10, .int .i64 0] w fun e w' => e = .returned (Lib.uintTuple 166 (Lib.parseMag t.data.toList)) ∧ (w' = w ∨ w' = Lib.bytesWorld w 5 t) := Any.internal_strconv_ParseUint_10_any Tryz.lays287 t hmax w
def Tryz.laysM280_ren : Go.Shelf.Ren := ⟨fun | 280 => 115 | 316 => 127 | n => n, fun | 9 => 9 | 168 => 168 | 75 => 130 | 210 => 183 | 3 => 3 | 4 => 4 | 37 => 22 | 0 => 0 | 127 => 187 | 80 => 195 | 5 => 5 | n => n, fun | 16 => 3 | n => n⟩
theorem Tryz.laysM280 : Go.Proofs.LaysM.n280 Tryz.prog Tryz.laysM280_ren := {
  mixed := by kernel_rfl
  f280 := Tryz.func115.trans (congrArg some (by kernel_rfl))
  f316 := Tryz.func127.trans (congrArg some (by kernel_rfl))
  t0 := Tryz.underlying0
  a0 := Tryz.isAgg0
  z0 := Tryz.sizeOf0
  v0 := Tryz.zeroValue0
  t3 := Tryz.underlying3
  a3 := Tryz.isAgg3
  z3 := Tryz.sizeOf3
  v3 := Tryz.zeroValue3
  t4 := Tryz.underlying4
  a4 := Tryz.isAgg4
  z4 := Tryz.sizeOf4
  v4 := Tryz.zeroValue4
  t9 := Tryz.underlying9
  a9 := Tryz.isAgg9
  z9 := Tryz.sizeOf9
  v9 := Tryz.zeroValue9
  t37 := Tryz.underlying22
  a37 := Tryz.isAgg22
  z37 := Tryz.sizeOf22
  v37 := Tryz.zeroValue22
  t75 := Tryz.underlying130
  a75 := Tryz.isAgg130
  z75 := Tryz.sizeOf130
  v75 := Tryz.zeroValue130
  t127 := Tryz.underlying187
  a127 := Tryz.isAgg187
  z127 := Tryz.sizeOf187
  v127 := Tryz.zeroValue187
  t168 := Tryz.underlying168
  a168 := Tryz.isAgg168
  z168 := Tryz.sizeOf168
  v168 := Tryz.zeroValue168
  t210 := Tryz.underlying183
  a210 := Tryz.isAgg183
  z210 := Tryz.sizeOf183
  v210 := Tryz.zeroValue183
  g16 := by kernel_rfl
  t5 := Tryz.underlying5
  a5 := Tryz.isAgg5
  z5 := Tryz.sizeOf5
  v5 := Tryz.zeroValue5
  t80 := Tryz.underlying195
  a80 := Tryz.isAgg195
  z80 := Tryz.sizeOf195
  v80 := Tryz.zeroValue195
  i0 := by kernel_rfl
  i3 := by kernel_rfl
  i4 := by kernel_rfl
  i5 := by kernel_rfl
  i9 := by kernel_rfl
  i37 := by kernel_rfl
  i75 := by kernel_rfl
  i80 := by kernel_rfl
  i127 := by kernel_rfl
  i168 := by kernel_rfl
  i210 := by kernel_rfl
  m16 := by kernel_rfl }
open Go.RowKit in
/-- strconv.rangeError: '&NumError{fn, stringslite.Clone(str), ErrRange}': A POINTER TO A NEW BLOCK that holds fn, str's bytes, and what the variable ErrRange holds. Of what was there nothing has turned. (LAID: no walk: one application.) -/
theorem Tryz.strconv_rangeError (fn s : ByteArray) (ev : Value) (w : World) (hlim : s.size ≤ 281474976710656) (hv : w.cell? ⟨3, 0, none⟩ = some ev) (hev : ev = .nilIface ∨ ∃ te pe, ev = .iface te pe) :
    Calls Tryz.prog 115 #[.string fn, .string s] w fun e w' => ∃ N, e = .returned (.pointer (some ⟨N, 0, none⟩)) ∧ w.heap.size ≤ N ∧ w'.heap[N]? = some (.cells #[.string fn, .string s, ev] 183 (0, 0)) ∧ Below w.heap.size w w' := Any.strconv_rangeError Tryz.laysM280 fn s ev w hlim hv hev
open Go.RowKit in
/-- strconv.toError, at the inner package's ErrRange: 'rangeError(fn, s)' as an error: A *NumError IN A NEW BLOCK. (LAID: no walk: one application.) -/
theorem Tryz.strconv_toError_range (fn s : ByteArray) (base bits : Int) (ev : Value) (w : World) (hlim : s.size ≤ 281474976710656) (hv : w.cell? ⟨3, 0, none⟩ = some ev) (hev : ev = .nilIface ∨ ∃ te pe, ev = .iface te pe) :
    Calls Tryz.prog 100 #[.string fn, .string s, .int .i64 base, .int .i64 bits, .iface 166 (.int .i64 1)] w fun e w' => ∃ N, e = .returned (.iface 168 (.pointer (some ⟨N, 0, none⟩))) ∧ w.heap.size ≤ N ∧ w'.heap[N]? = some (.cells #[.string fn, .string s, ev] 183 (0, 0)) ∧ Below w.heap.size w w' := Any.strconv_toError_range Tryz.laysC245 fn s base bits ev w hlim hv hev
def Tryz.laysC172_ren : Go.Shelf.Ren := ⟨fun | 172 => 96 | 244 => 110 | 245 => 100 | 247 => 125 | 279 => 114 | 280 => 115 | 281 => 116 | 282 => 117 | 287 => 99 | 316 => 127 | 171 => 60 | 205 => 128 | 321 => 112 | 322 => 113 | 243 => 92 | 246 => 104 | 283 => 106 | 284 => 107 | 285 => 108 | 286 => 109 | 129 => 121 | 317 => 120 | 318 => 122 | 319 => 123 | 320 => 124 | 337 => 129 | 338 => 130 | n => n, fun | 9 => 9 | 3 => 3 | 75 => 130 | 76 => 149 | 4 => 4 | 5 => 5 | 167 => 166 | 37 => 22 | 0 => 0 | 85 => 178 | 2 => 2 | 168 => 168 | 53 => 24 | 175 => 131 | 46 => 82 | 210 => 183 | 127 => 187 | 145 => 190 | 143 => 188 | 21 => 21 | 171 => 161 | 173 => 164 | 212 => 175 | 51 => 25 | 20 => 20 | 213 => 176 | 232 => 191 | 233 => 192 | 80 => 195 | n => n, fun | 15 => 2 | 16 => 3 | 17 => 1 | 18 => 4 | 19 => 5 | n => n⟩
theorem Tryz.laysC172 : Go.Proofs.LaysC.n172 Tryz.prog Tryz.laysC172_ren := {
  mixed := by kernel_rfl
  f129 := Tryz.func121.trans (congrArg some (by kernel_rfl))
  f171 := Tryz.func60.trans (congrArg some (by kernel_rfl))
  f172 := Tryz.func96.trans (congrArg some (by kernel_rfl))
  f205 := Tryz.func128.trans (congrArg some (by kernel_rfl))
  f243 := Tryz.func92.trans (congrArg some (by kernel_rfl))
  f244 := Tryz.func110.trans (congrArg some (by kernel_rfl))
  f245 := Tryz.func100.trans (congrArg some (by kernel_rfl))
  f246 := Tryz.func104.trans (congrArg some (by kernel_rfl))
  f247 := Tryz.func125.trans (congrArg some (by kernel_rfl))
  f279 := Tryz.func114.trans (congrArg some (by kernel_rfl))
  f280 := Tryz.func115.trans (congrArg some (by kernel_rfl))
  f281 := Tryz.func116.trans (congrArg some (by kernel_rfl))
  f282 := Tryz.func117.trans (congrArg some (by kernel_rfl))
  f283 := Tryz.func106.trans (congrArg some (by kernel_rfl))
  f284 := Tryz.func107.trans (congrArg some (by kernel_rfl))
  f285 := Tryz.func108.trans (congrArg some (by kernel_rfl))
  f286 := Tryz.func109.trans (congrArg some (by kernel_rfl))
  f287 := Tryz.func99.trans (congrArg some (by kernel_rfl))
  f316 := Tryz.func127.trans (congrArg some (by kernel_rfl))
  f317 := Tryz.func120.trans (congrArg some (by kernel_rfl))
  f318 := Tryz.func122.trans (congrArg some (by kernel_rfl))
  f319 := Tryz.func123.trans (congrArg some (by kernel_rfl))
  f320 := Tryz.func124.trans (congrArg some (by kernel_rfl))
  f321 := Tryz.func112.trans (congrArg some (by kernel_rfl))
  f322 := Tryz.func113.trans (congrArg some (by kernel_rfl))
  f337 := Tryz.func129.trans (congrArg some (by kernel_rfl))
  f338 := Tryz.func130.trans (congrArg some (by kernel_rfl))
  t0 := Tryz.underlying0
  a0 := Tryz.isAgg0
  z0 := Tryz.sizeOf0
  v0 := Tryz.zeroValue0
  t2 := Tryz.underlying2
  a2 := Tryz.isAgg2
  z2 := Tryz.sizeOf2
  v2 := Tryz.zeroValue2
  t3 := Tryz.underlying3
  a3 := Tryz.isAgg3
  z3 := Tryz.sizeOf3
  v3 := Tryz.zeroValue3
  t4 := Tryz.underlying4
  a4 := Tryz.isAgg4
  z4 := Tryz.sizeOf4
  v4 := Tryz.zeroValue4
  t5 := Tryz.underlying5
  a5 := Tryz.isAgg5
  z5 := Tryz.sizeOf5
  v5 := Tryz.zeroValue5
  t9 := Tryz.underlying9
  a9 := Tryz.isAgg9
  z9 := Tryz.sizeOf9
  v9 := Tryz.zeroValue9
  t20 := Tryz.underlying20
  a20 := Tryz.isAgg20
  z20 := Tryz.sizeOf20
  v20 := Tryz.zeroValue20
  t21 := Tryz.underlying21
  a21 := Tryz.isAgg21
  z21 := Tryz.sizeOf21
  v21 := Tryz.zeroValue21
  t37 := Tryz.underlying22
  a37 := Tryz.isAgg22
  z37 := Tryz.sizeOf22
  v37 := Tryz.zeroValue22
  t46 := Tryz.underlying82
  a46 := Tryz.isAgg82
  z46 := Tryz.sizeOf82
  v46 := Tryz.zeroValue82
  t51 := Tryz.underlying25
  a51 := Tryz.isAgg25
  z51 := Tryz.sizeOf25
  v51 := Tryz.zeroValue25
  t53 := Tryz.underlying24
  a53 := Tryz.isAgg24
  z53 := Tryz.sizeOf24
  v53 := Tryz.zeroValue24
  t75 := Tryz.underlying130
  a75 := Tryz.isAgg130
  z75 := Tryz.sizeOf130
  v75 := Tryz.zeroValue130
  t76 := Tryz.underlying149
  a76 := Tryz.isAgg149
  z76 := Tryz.sizeOf149
  v76 := Tryz.zeroValue149
  t85 := Tryz.underlying178
  a85 := Tryz.isAgg178
  z85 := Tryz.sizeOf178
  v85 := Tryz.zeroValue178
  t127 := Tryz.underlying187
  a127 := Tryz.isAgg187
  z127 := Tryz.sizeOf187
  v127 := Tryz.zeroValue187
  t143 := Tryz.underlying188
  a143 := Tryz.isAgg188
  z143 := Tryz.sizeOf188
  v143 := Tryz.zeroValue188
  t145 := Tryz.underlying190
  a145 := Tryz.isAgg190
  z145 := Tryz.sizeOf190
  v145 := Tryz.zeroValue190
  t167 := Tryz.underlying166
  a167 := Tryz.isAgg166
  z167 := Tryz.sizeOf166
  v167 := Tryz.zeroValue166
  t168 := Tryz.underlying168
  a168 := Tryz.isAgg168
  z168 := Tryz.sizeOf168
  v168 := Tryz.zeroValue168
  t171 := Tryz.underlying161
  a171 := Tryz.isAgg161
  z171 := Tryz.sizeOf161
  v171 := Tryz.zeroValue161
  t173 := Tryz.underlying164
  a173 := Tryz.isAgg164
  z173 := Tryz.sizeOf164
  v173 := Tryz.zeroValue164
  t175 := Tryz.underlying131
  a175 := Tryz.isAgg131
  z175 := Tryz.sizeOf131
  v175 := Tryz.zeroValue131
  t210 := Tryz.underlying183
  a210 := Tryz.isAgg183
  z210 := Tryz.sizeOf183
  v210 := Tryz.zeroValue183
  t212 := Tryz.underlying175
  a212 := Tryz.isAgg175
  z212 := Tryz.sizeOf175
  v212 := Tryz.zeroValue175
  t213 := Tryz.underlying176
  a213 := Tryz.isAgg176
  z213 := Tryz.sizeOf176
  t232 := Tryz.underlying191
  a232 := Tryz.isAgg191
  z232 := Tryz.sizeOf191
  v232 := Tryz.zeroValue191
  t233 := Tryz.underlying192
  a233 := Tryz.isAgg192
  z233 := Tryz.sizeOf192
  v233 := Tryz.zeroValue192
  g15 := by kernel_rfl
  g16 := by kernel_rfl
  g17 := by kernel_rfl
  g18 := by kernel_rfl
  g19 := by kernel_rfl
  t80 := Tryz.underlying195
  a80 := Tryz.isAgg195
  z80 := Tryz.sizeOf195
  v80 := Tryz.zeroValue195
  i0 := by kernel_rfl
  i2 := by kernel_rfl
  i3 := by kernel_rfl
  i4 := by kernel_rfl
  i5 := by kernel_rfl
  i9 := by kernel_rfl
  i20 := by kernel_rfl
  i21 := by kernel_rfl
  i37 := by kernel_rfl
  i46 := by kernel_rfl
  i51 := by kernel_rfl
  i53 := by kernel_rfl
  i75 := by kernel_rfl
  i76 := by kernel_rfl
  i80 := by kernel_rfl
  i85 := by kernel_rfl
  i127 := by kernel_rfl
  i143 := by kernel_rfl
  i145 := by kernel_rfl
  i167 := by kernel_rfl
  i168 := by kernel_rfl
  i171 := by kernel_rfl
  i173 := by kernel_rfl
  i175 := by kernel_rfl
  i210 := by kernel_rfl
  i212 := by kernel_rfl
  i232 := by kernel_rfl
  i233 := by kernel_rfl
  m15 := by kernel_rfl
  m16 := by kernel_rfl
  m17 := by kernel_rfl
  m18 := by kernel_rfl
  m19 := by kernel_rfl
  c0 := by kernel_rfl
  c2 := by kernel_rfl
  c3 := by kernel_rfl
  c4 := by kernel_rfl
  c5 := by kernel_rfl
  c9 := by kernel_rfl
  c20 := by kernel_rfl
  c21 := by kernel_rfl
  c37 := by kernel_rfl
  c46 := by kernel_rfl
  c51 := by kernel_rfl
  c53 := by kernel_rfl
  c75 := by kernel_rfl
  c76 := by kernel_rfl
  c80 := by kernel_rfl
  c85 := by kernel_rfl
  c127 := by kernel_rfl
  c143 := by kernel_rfl
  c145 := by kernel_rfl
  c167 := by kernel_rfl
  c168 := by kernel_rfl
  c171 := by kernel_rfl
  c173 := by kernel_rfl
  c175 := by kernel_rfl
  c210 := by kernel_rfl
  c212 := by kernel_rfl
  c213 := by kernel_rfl
  c232 := by kernel_rfl
  c233 := by kernel_rfl }
open Go.RowKit in
theorem Tryz.strconv_Atoi_range_var (s : ByteArray) (hlim : s.size ≤ 281474976710656) (h : Lib.atoiAll s.data.toList = .range) (tp : TypeId) (p : Value) (w : World) (hvar : w.var? Tryz.prog "strconv.ErrRange" = some #[.iface tp p]) :
    Calls Tryz.prog 96 #[.string s] w fun e w' => ∃ N, e = .returned (.tuple #[.int .i64 (Lib.atoiSat s.data.toList), .iface 168 (.pointer (some ⟨N, 0, none⟩))]) ∧ w.heap.size ≤ N ∧ w'.heap[N]? = some (.cells #[.string ⟨#[65, 116, 111, 105]⟩, .string s, .iface tp p] 183 (0, 0)) ∧ Below w.heap.size w w' := Any.strconv_Atoi_range_var Tryz.laysC172 s hlim (h.trans rfl) tp p w hvar
def Tryz.laysPu14_ren : Go.Shelf.Ren := ⟨fun | 14 => 72 | 16 => 99 | 17 => 100 | 19 => 112 | 20 => 113 | 21 => 114 | 22 => 115 | 23 => 116 | 24 => 117 | 25 => 127 | 27 => 60 | 26 => 128 | 28 => 92 | 29 => 104 | 30 => 106 | 31 => 107 | 32 => 108 | 33 => 109 | 35 => 121 | 34 => 120 | 36 => 122 | 37 => 123 | 38 => 124 | 39 => 129 | 40 => 130 | n => n, fun | 9 => 9 | 3 => 3 | 22 => 24 | 24 => 130 | 25 => 131 | 4 => 4 | 34 => 166 | 5 => 5 | 36 => 82 | 37 => 22 | 0 => 0 | 39 => 168 | 21 => 21 | 44 => 183 | 47 => 187 | 50 => 190 | 48 => 188 | 2 => 2 | 52 => 161 | 55 => 164 | 59 => 175 | 60 => 25 | 20 => 20 | 61 => 176 | 65 => 191 | 66 => 192 | 67 => 195 | n => n, fun | 0 => 2 | 1 => 3 | 2 => 1 | 3 => 4 | 4 => 5 | n => n⟩
theorem Tryz.laysPu14 : Go.Proofs.LaysPu.n14 Tryz.prog Tryz.laysPu14_ren := {
  mixed := by kernel_rfl
  f14 := Tryz.func72.trans (congrArg some (by kernel_rfl))
  f16 := Tryz.func99.trans (congrArg some (by kernel_rfl))
  f17 := Tryz.func100.trans (congrArg some (by kernel_rfl))
  f19 := Tryz.func112.trans (congrArg some (by kernel_rfl))
  f20 := Tryz.func113.trans (congrArg some (by kernel_rfl))
  f21 := Tryz.func114.trans (congrArg some (by kernel_rfl))
  f22 := Tryz.func115.trans (congrArg some (by kernel_rfl))
  f23 := Tryz.func116.trans (congrArg some (by kernel_rfl))
  f24 := Tryz.func117.trans (congrArg some (by kernel_rfl))
  f25 := Tryz.func127.trans (congrArg some (by kernel_rfl))
  f26 := Tryz.func128.trans (congrArg some (by kernel_rfl))
  f27 := Tryz.func60.trans (congrArg some (by kernel_rfl))
  f28 := Tryz.func92.trans (congrArg some (by kernel_rfl))
  f29 := Tryz.func104.trans (congrArg some (by kernel_rfl))
  f30 := Tryz.func106.trans (congrArg some (by kernel_rfl))
  f31 := Tryz.func107.trans (congrArg some (by kernel_rfl))
  f32 := Tryz.func108.trans (congrArg some (by kernel_rfl))
  f33 := Tryz.func109.trans (congrArg some (by kernel_rfl))
  f34 := Tryz.func120.trans (congrArg some (by kernel_rfl))
  f35 := Tryz.func121.trans (congrArg some (by kernel_rfl))
  f36 := Tryz.func122.trans (congrArg some (by kernel_rfl))
  f37 := Tryz.func123.trans (congrArg some (by kernel_rfl))
  f38 := Tryz.func124.trans (congrArg some (by kernel_rfl))
  f39 := Tryz.func129.trans (congrArg some (by kernel_rfl))
  f40 := Tryz.func130.trans (congrArg some (by kernel_rfl))
  t0 := Tryz.underlying0
  a0 := Tryz.isAgg0
  z0 := Tryz.sizeOf0
  v0 := Tryz.zeroValue0
  i0 := by kernel_rfl
  t2 := Tryz.underlying2
  a2 := Tryz.isAgg2
  z2 := Tryz.sizeOf2
  v2 := Tryz.zeroValue2
  i2 := by kernel_rfl
  t3 := Tryz.underlying3
  a3 := Tryz.isAgg3
  z3 := Tryz.sizeOf3
  v3 := Tryz.zeroValue3
  i3 := by kernel_rfl
  t4 := Tryz.underlying4
  a4 := Tryz.isAgg4
  z4 := Tryz.sizeOf4
  v4 := Tryz.zeroValue4
  i4 := by kernel_rfl
  t5 := Tryz.underlying5
  a5 := Tryz.isAgg5
  z5 := Tryz.sizeOf5
  v5 := Tryz.zeroValue5
  i5 := by kernel_rfl
  t9 := Tryz.underlying9
  a9 := Tryz.isAgg9
  z9 := Tryz.sizeOf9
  v9 := Tryz.zeroValue9
  i9 := by kernel_rfl
  t20 := Tryz.underlying20
  a20 := Tryz.isAgg20
  z20 := Tryz.sizeOf20
  v20 := Tryz.zeroValue20
  i20 := by kernel_rfl
  t21 := Tryz.underlying21
  a21 := Tryz.isAgg21
  z21 := Tryz.sizeOf21
  v21 := Tryz.zeroValue21
  i21 := by kernel_rfl
  t22 := Tryz.underlying24
  a22 := Tryz.isAgg24
  z22 := Tryz.sizeOf24
  v22 := Tryz.zeroValue24
  i22 := by kernel_rfl
  t24 := Tryz.underlying130
  a24 := Tryz.isAgg130
  z24 := Tryz.sizeOf130
  v24 := Tryz.zeroValue130
  i24 := by kernel_rfl
  t25 := Tryz.underlying131
  a25 := Tryz.isAgg131
  z25 := Tryz.sizeOf131
  v25 := Tryz.zeroValue131
  i25 := by kernel_rfl
  t34 := Tryz.underlying166
  a34 := Tryz.isAgg166
  z34 := Tryz.sizeOf166
  v34 := Tryz.zeroValue166
  i34 := by kernel_rfl
  c34 := by kernel_rfl
  t36 := Tryz.underlying82
  a36 := Tryz.isAgg82
  z36 := Tryz.sizeOf82
  v36 := Tryz.zeroValue82
  i36 := by kernel_rfl
  t37 := Tryz.underlying22
  a37 := Tryz.isAgg22
  z37 := Tryz.sizeOf22
  v37 := Tryz.zeroValue22
  i37 := by kernel_rfl
  t39 := Tryz.underlying168
  a39 := Tryz.isAgg168
  z39 := Tryz.sizeOf168
  v39 := Tryz.zeroValue168
  i39 := by kernel_rfl
  t44 := Tryz.underlying183
  a44 := Tryz.isAgg183
  z44 := Tryz.sizeOf183
  v44 := Tryz.zeroValue183
  i44 := by kernel_rfl
  t47 := Tryz.underlying187
  a47 := Tryz.isAgg187
  z47 := Tryz.sizeOf187
  v47 := Tryz.zeroValue187
  i47 := by kernel_rfl
  t48 := Tryz.underlying188
  a48 := Tryz.isAgg188
  z48 := Tryz.sizeOf188
  v48 := Tryz.zeroValue188
  i48 := by kernel_rfl
  t50 := Tryz.underlying190
  a50 := Tryz.isAgg190
  z50 := Tryz.sizeOf190
  v50 := Tryz.zeroValue190
  i50 := by kernel_rfl
  t52 := Tryz.underlying161
  a52 := Tryz.isAgg161
  z52 := Tryz.sizeOf161
  v52 := Tryz.zeroValue161
  i52 := by kernel_rfl
  t55 := Tryz.underlying164
  a55 := Tryz.isAgg164
  z55 := Tryz.sizeOf164
  v55 := Tryz.zeroValue164
  i55 := by kernel_rfl
  t59 := Tryz.underlying175
  a59 := Tryz.isAgg175
  z59 := Tryz.sizeOf175
  v59 := Tryz.zeroValue175
  i59 := by kernel_rfl
  t60 := Tryz.underlying25
  a60 := Tryz.isAgg25
  z60 := Tryz.sizeOf25
  v60 := Tryz.zeroValue25
  i60 := by kernel_rfl
  t61 := Tryz.underlying176
  a61 := Tryz.isAgg176
  z61 := Tryz.sizeOf176
  t65 := Tryz.underlying191
  a65 := Tryz.isAgg191
  z65 := Tryz.sizeOf191
  v65 := Tryz.zeroValue191
  i65 := by kernel_rfl
  t66 := Tryz.underlying192
  a66 := Tryz.isAgg192
  z66 := Tryz.sizeOf192
  v66 := Tryz.zeroValue192
  i66 := by kernel_rfl
  t67 := Tryz.underlying195
  a67 := Tryz.isAgg195
  z67 := Tryz.sizeOf195
  v67 := Tryz.zeroValue195
  i67 := by kernel_rfl
  g0 := by kernel_rfl
  m0 := by kernel_rfl
  g1 := by kernel_rfl
  m1 := by kernel_rfl
  g2 := by kernel_rfl
  m2 := by kernel_rfl
  g3 := by kernel_rfl
  m3 := by kernel_rfl
  g4 := by kernel_rfl
  m4 := by kernel_rfl }
open Go.RowKit in
/-- strconv.ParseUint(s, 10, 64), AT EVERY STRING THAT SPELLS A uint64 ('Lib.parseUintB 64 s.data.toList = .ok u'): u, AND NO ERROR. (LAID: no walk: one application.) -/
theorem Tryz.strconv_ParseUint_10_at64_ok (s : ByteArray) (hmax : s.size ≤ 9223372036854775806) (u : Nat) (h : Lib.parseUintB 64 s.data.toList = .ok u) (w : World) :
    Calls Tryz.prog 72 #[.string s, .int .i64 10, .int .i64 64] w fun e w' => e = .returned (.tuple #[.int .u64 u, .nilIface]) ∧ (w' = w ∨ w' = Lib.bytesWorld w 5 s) := Any.strconv_ParseUint_10_at64_ok Tryz.laysPu14 s hmax u h w
open Go.RowKit in
theorem Tryz.strconv_ParseUint_10_at64_syntax_var (s : ByteArray) (hlim : s.size ≤ 281474976710656) (h : Lib.parseUintB 64 s.data.toList = Lib.parseUintB 64 []) (tp : TypeId) (p : Value) (w : World) (hvar : w.var? Tryz.prog "strconv.ErrSyntax" = some #[.iface tp p]) :
    Calls Tryz.prog 72 #[.string s, .int .i64 10, .int .i64 64] w fun e w' => ∃ N, e = .returned (.tuple #[.int .u64 0, .iface 168 (.pointer (some ⟨N, 0, none⟩))]) ∧ w.heap.size ≤ N ∧ w'.heap[N]? = some (.cells #[.string ⟨#[80, 97, 114, 115, 101, 85, 105, 110, 116]⟩, .string s, .iface tp p] 183 (0, 0)) ∧ Below w.heap.size w w' := Any.strconv_ParseUint_10_at64_syntax_var Tryz.laysPu14 s hlim (h.trans rfl) tp p w hvar
open Go.RowKit in
theorem Tryz.strconv_ParseUint_10_at64_range_var (s : ByteArray) (hlim : s.size ≤ 281474976710656) (h : Lib.parseUintB 64 s.data.toList = .range) (tp : TypeId) (p : Value) (w : World) (hvar : w.var? Tryz.prog "strconv.ErrRange" = some #[.iface tp p]) :
    Calls Tryz.prog 72 #[.string s, .int .i64 10, .int .i64 64] w fun e w' => ∃ N, e = .returned (.tuple #[.int .u64 18446744073709551615, .iface 168 (.pointer (some ⟨N, 0, none⟩))]) ∧ w.heap.size ≤ N ∧ w'.heap[N]? = some (.cells #[.string ⟨#[80, 97, 114, 115, 101, 85, 105, 110, 116]⟩, .string s, .iface tp p] 183 (0, 0)) ∧ Below w.heap.size w w' := Any.strconv_ParseUint_10_at64_range_var Tryz.laysPu14 s hlim (h.trans rfl) tp p w hvar
end Go.Proofs
/- strconv.FormatUint at base 10 and text.Decimal: the numeral. (Turned from the kit's worked walk of FormatInt: a row of bytes from place 0.) -/
namespace Go.Proofs.YthpejgmkiomfhaaGreatDoor
open Go Go.RowKit Go.Sort Go.Lib
theorem holds_zero0 (w : World) (T : TypeId) (nd : Nat) (hs : nd ≤ 24) : Holds (fun (b : UInt8) => Value.int .u8 (b.toNat : Int)) (w.alloc (.cells zeros24 T)) w.heap.size 0 (Array.replicate nd (0 : UInt8)) := fun j hj => by
  have hj' : j < nd := by simpa using hj
  refine ⟨?_, World.frozen?_alloc_new _ _ _ _⟩
  rw [World.cell?_alloc_new, zeros24_at _ (by omega), getElem!_pos _ j hj]
  simp
theorem fin_pos0 (w : World) (o : Obj) (dk : Array UInt8) (k : Nat) : ∃ os, (putRow (fun (b : UInt8) => Value.int .u8 (b.toNat : Int)) (w.alloc o) w.heap.size 0 dk).drewN k = grow (w.drewN k) os := by
  rw [alloc_eq_grow]
  obtain ⟨os', _, e⟩ := putRow_grow_new (fun (b : UInt8) => Value.int .u8 (b.toNat : Int)) w #[o] w.heap.size 0 dk (Nat.le_refl _)
  exact ⟨os', by rw [e]; rfl⟩
set_option maxRecDepth 100000 in
theorem fmtUint_small (i : Nat) (hi : i < 100) (w : World) : Calls Go.Proofs.Tryz.prog 95 #[.int .u64 i, .int .i64 10] w fun e w' => e = .returned (.string ⟨(Lib.decDigits i).toArray⟩) ∧ w' = w := by
  have hcv : IntKind.i64.wrap (i : Int) = (i : Int) := by rw [IntKind.wrap_i64]; omega
  go_enter Tryz.func95, Tryz.ntmps95
  go_wp2_with (go_at_call 106; refine (Tryz.internal_strconv_small i hi _).mono ?_; rintro e w' ⟨rfl, rfl⟩)
  go_ret
  exact ⟨rfl, rfl⟩
set_option maxHeartbeats 6400000 in
set_option maxRecDepth 100000 in
theorem fmtUint_big (u : Nat) (h1 : 100 ≤ u) (hu64 : u < 18446744073709551616) (w : World) (htab : Lib.TabIs Go.Proofs.Tryz.prog w "internal/strconv.uint64pow10" .u64 Lib.pow10Tab) :
    Calls Go.Proofs.Tryz.prog 95 #[.int .u64 u, .int .i64 10] w fun e w' => e = .returned (.string ⟨(Lib.decDigits u).toArray⟩) ∧ ∃ k os, w' = grow (w.drewN k) os := by
  have hu1 : 1 ≤ u := by omega
  have hnd20 : Lib.nDigits u ≤ 20 := by have := Lib.numDigits_eq u hu1 hu64; split at this <;> omega
  have hb3 : Lib.nDigits u ≤ 23 := by omega
  have hal : Go.Proofs.Tryz.prog.arrayLen 161 = 24 := by simp [Program.arrayLen, Tryz.underlying161]
  have hsl1 : ∀ W, (Instr.sliceAt 161 (.pointer (some ⟨w.heap.size, 0, none⟩)) none (some (.int .i64 (Lib.nDigits u : Int))) none).run Go.Proofs.Tryz.prog W = .ok (.slice (some ⟨w.heap.size, 0, none⟩) (Lib.nDigits u) 24) W := fun W => by
    rw [run_sliceAt_array_h W 161 ⟨w.heap.size, 0, none⟩ (by simp [Program.arrayLen, Program.elem, Tryz.underlying161]) .i64 (Lib.nDigits u : Int) (by omega) (by rw [hal]; omega)]
    go_simp
  have hH0 := holds_zero0 w 161 (Lib.nDigits u) (by omega)
  have hfmt := Tryz.internal_strconv_formatBase10 w.heap.size 0 24 u (Array.replicate (Lib.nDigits u) 0) (w.alloc (.cells Lib.zeros24 161)) hH0 (by rw [Array.size_replicate]; exact Lib.lt_pow_nDigits u) hu64 (by rw [Array.size_replicate]; omega)
  rw [Array.size_replicate] at hfmt
  have HH0 := Lib.hid hH0
  clear hH0 hal
  go_enter Tryz.func95, Tryz.ntmps95
  go_wp2_with (first
    | (go_at_call 107; refine (Tryz.internal_strconv_numDigits u hu1 hu64 _ (Lib.tabIs_alloc htab _)).mono ?_; rintro e w' ⟨rfl, rfl⟩))
  go_at_call 108
  refine hfmt.mono ?_
  rintro e w' ⟨rfl, k, v', dk, rfl, hF⟩
  have hcv : (convert 22 9 (.slice (some ⟨w.heap.size, 0, none⟩) (Lib.nDigits u) 24)).run Go.Proofs.Tryz.prog ((putRow (fun (b : UInt8) => Value.int .u8 (b.toNat : Int)) (w.alloc (.cells Lib.zeros24 161)) w.heap.size 0 dk).drewN k) = .ok (.string ⟨(Lib.decDigits u).toArray⟩) ((putRow (fun (b : UInt8) => Value.int .u8 (b.toNat : Int)) (w.alloc (.cells Lib.zeros24 161)) w.heap.size 0 dk).drewN k) := by
    have h := run_convert_bytes_back (P := Go.Proofs.Tryz.prog) ((putRow (fun (b : UInt8) => Value.int .u8 (b.toNat : Int)) (w.alloc (.cells Lib.zeros24 161)) w.heap.size 0 dk).drewN k) 22 9 5 ⟨w.heap.size, 0, none⟩ 24 (Lib.decDigits u) Tryz.underlying22 Tryz.underlying5 Tryz.underlying9 (fun j hj => by
      rw [Lib.row_is_numeral hF j hj, Lib.add_plain, World.cell?_drewN]
      exact cell?_putRow (fun (b : UInt8) => Value.int .u8 (b.toNat : Int)) _ w.heap.size 0 _ dk HH0.out (by rw [hF.size, Array.size_replicate]) j (by rw [hF.size]; rw [Lib.decDigits_length] at hj; exact hj))
    rw [Lib.decDigits_length] at h
    exact h
  go_wp2
  go_ret
  obtain ⟨os, eo⟩ := fin_pos0 w (.cells Lib.zeros24 161) dk k
  exact ⟨rfl, k, os, eo⟩
theorem grow_below (w : World) (k : Nat) (os : Array Obj) : Below w.heap.size w (grow (w.drewN k) os) :=
  ⟨rfl, rfl, rfl, by simp [grow, World.drewN], fun i hi => by simp [grow, World.drewN, Array.getElem?_append, hi]⟩
theorem fmtUint (u : Nat) (hu64 : u < 18446744073709551616) (w : World) (htab : Lib.TabIs Go.Proofs.Tryz.prog w "internal/strconv.uint64pow10" .u64 Lib.pow10Tab) :
    Calls Go.Proofs.Tryz.prog 95 #[.int .u64 u, .int .i64 10] w fun e w' => e = .returned (.string ⟨(Lib.decDigits u).toArray⟩) ∧ Below w.heap.size w w' := by
  by_cases h : u < 100
  · refine (fmtUint_small u h w).mono ?_
    rintro e w' ⟨rfl, rfl⟩
    exact ⟨rfl, Below.refl _ _⟩
  · refine (fmtUint_big u (by omega) hu64 w htab).mono ?_
    rintro e w' ⟨rfl, k, os, rfl⟩
    exact ⟨rfl, grow_below w k os⟩
set_option maxRecDepth 100000 in
theorem fmtUintP (u : Nat) (hu64 : u < 18446744073709551616) (w : World) (htab : Lib.TabIs Go.Proofs.Tryz.prog w "internal/strconv.uint64pow10" .u64 Lib.pow10Tab) :
    Calls Go.Proofs.Tryz.prog 64 #[.int .u64 u, .int .i64 10] w fun e w' => e = .returned (.string ⟨(Lib.decDigits u).toArray⟩) ∧ Below w.heap.size w w' := by
  go_enter Tryz.func64, Tryz.ntmps64
  go_wp2_with (go_at_call 95; refine (fmtUint u hu64 _ htab).mono ?_; rintro e w' ⟨rfl, hb⟩)
  go_ret
  exact ⟨rfl, hb⟩
set_option maxRecDepth 100000 in
theorem decimalC (u : Nat) (hu64 : u < 18446744073709551616) (w : World) (htab : Lib.TabIs Go.Proofs.Tryz.prog w "internal/strconv.uint64pow10" .u64 Lib.pow10Tab) :
    Calls Go.Proofs.Tryz.prog 41 #[.int .u64 u] w fun e w' => e = .returned (.string ⟨(Lib.decDigits u).toArray⟩) ∧ Below w.heap.size w w' := by
  go_enter Tryz.func41, Tryz.ntmps41
  go_wp2_with (go_at_call 64; refine (fmtUintP u hu64 _ htab).mono ?_; rintro e w' ⟨rfl, hb⟩)
  go_ret
  exact ⟨rfl, hb⟩
end Go.Proofs.YthpejgmkiomfhaaGreatDoor
/- The plain law of numerals: what is read as a number by the loop is what ParseUint reads and Decimal writes back. -/
namespace Go.Rx
open Go Go.Lib
structure Tg where
  tag : Int
  value : ByteArray
deriving DecidableEq, Inhabited
def Tg.enc (t : Tg) : List Value := [.int .i64 t.tag, .string t.value]
/-- The first value of a tag. -/
def valueF (xs : List Tg) (tag : Int) : Option ByteArray := (xs.find? fun t => decide (t.tag = tag)).map (·.value)
def valueV : Option ByteArray → Value | some s => .tuple #[.string s, .bool true] | none => .tuple #[.string ⟨#[]⟩, .bool false]
def natRest : List UInt8 → Nat → Option Nat
  | [], n => some n
  | c :: r, n => if c.toNat < 48 ∨ 57 < c.toNat then none else if (18446744073709551615 - (c.toNat - 48)) / 10 < n then none else natRest r (n * 10 + (c.toNat - 48))
def natF (s : ByteArray) : Option Nat := if s.size < 1 ∨ 20 < s.size ∨ (1 < s.size ∧ bAt s 0 = 48) then none else natRest s.data.toList 0
def natV : Option Nat → Value | some n => .tuple #[.int .u64 (n : Int), .bool true] | none => .tuple #[.int .u64 0, .bool false]
def okOf : NumEnd Nat → Option Nat | .ok u => some u | _ => none
def numOf (s : ByteArray) : Option Nat := match okOf (parseUintB 64 s.data.toList) with | some u => if decDigits u = s.data.toList then some u else none | none => none
def numV : Option ByteArray → Value
  | none => .tuple #[.int .u64 0, .int .i64 30]
  | some s => match numOf s with | some n => .tuple #[.int .u64 (n : Int), .int .i64 0] | none => .tuple #[.int .u64 0, .int .i64 31]
theorem natRest_eq : ∀ (l : List UInt8) (n : Nat), natRest l n = okOf (parseUintM 18446744073709551615 n l)
  | [], n => rfl
  | c :: r, n => by
    simp only [natRest, parseUintM]
    by_cases h : 48 ≤ c.toNat ∧ c.toNat ≤ 57
    · rw [if_neg (by omega), if_pos h]
      by_cases h2 : (18446744073709551615 - (c.toNat - 48)) / 10 < n
      · rw [if_pos h2]
        by_cases h3 : 1844674407370955162 ≤ n
        · rw [if_pos h3]; rfl
        · rw [if_neg h3, if_pos (by omega)]; rfl
      · rw [if_neg h2, if_neg (by omega), if_neg (by omega)]
        exact natRest_eq r _
    · rw [if_pos (by omega), if_neg h]; rfl
theorem dec_step {acc d : Nat} (h : 1 ≤ acc) (hd : d ≤ 9) : decDigits (acc * 10 + d) = decDigits acc ++ [UInt8.ofNat (48 + d)] := by
  rw [decDigits, dif_neg (by omega), show (acc * 10 + d) / 10 = acc by omega, show (acc * 10 + d) % 10 = d by omega]
theorem ofDigit {c : UInt8} (h : 48 ≤ c.toNat) : UInt8.ofNat (48 + (c.toNat - 48)) = c := by
  rw [show 48 + (c.toNat - 48) = c.toNat by omega, UInt8.ofNat_toNat]
theorem dec_parse {M : Nat} : ∀ (l : List UInt8) (acc u : Nat), 1 ≤ acc → parseUintM M acc l = .ok u → decDigits u = decDigits acc ++ l
  | [], acc, u, _, h => by
    simp only [parseUintM] at h
    cases h
    simp
  | c :: r, acc, u, h1, h => by
    simp only [parseUintM] at h
    split at h
    · rename_i hc
      split at h
      · cases h
      · split at h
        · cases h
        · rw [dec_parse r _ u (by omega) h, dec_step h1 (by omega), ofDigit hc.1]
          simp
    · cases h
theorem dec_parse0 {M : Nat} {c : UInt8} {r : List UInt8} {u : Nat} (h : parseUintM M 0 (c :: r) = .ok u) (hz : ¬ (r ≠ [] ∧ c.toNat = 48)) : decDigits u = c :: r := by
  simp only [parseUintM] at h
  split at h
  · rename_i hc
    split at h
    · cases h
    · split at h
      · cases h
      · rw [Nat.zero_mul, Nat.zero_add] at h
        have h9 : decDigits (c.toNat - 48) = [c] := by rw [decDigits_one (by omega), ofDigit hc.1]
        by_cases hr : r = []
        · subst hr
          simp only [parseUintM] at h
          cases h
          exact h9
        · have h48 : c.toNat ≠ 48 := fun hh => hz ⟨hr, hh⟩
          rw [dec_parse r _ u (by omega) h, h9]
          rfl
  · cases h
theorem dec_head : ∀ (u : Nat), 1 ≤ u → ∃ c r, decDigits u = c :: r ∧ c.toNat ≠ 48 := by
  intro u
  induction u using Nat.strongRecOn with
  | _ u ih =>
    intro h1
    by_cases h : u < 10
    · refine ⟨_, [], decDigits_one h, ?_⟩
      rw [UInt8.toNat_ofNat']
      omega
    · obtain ⟨c, r, h2, h3⟩ := ih (u / 10) (by omega) (by omega)
      refine ⟨c, r ++ [UInt8.ofNat (48 + u % 10)], ?_, h3⟩
      rw [decDigits, dif_neg h, h2]
      rfl
theorem dec_len {u : Nat} (h : u < 18446744073709551616) : (decDigits u).length ≤ 20 := by
  rw [decDigits_length]
  by_cases h1 : 1 ≤ u
  · have := numDigits_eq u h1 h
    split at this <;> omega
  · rw [nDigits_small (by omega)]; omega
theorem natF_eq (s : ByteArray) : natF s = numOf s := by
  have e64 : (2 : Nat) ^ 64 - 1 = 18446744073709551615 := by decide
  have hsz : s.size = s.data.toList.length := by simp
  have hb : bAt s 0 = ((s.data.toList[0]?.getD 0).toNat : Int) := by
    unfold bAt
    simp [Array.getElem?_toList]
  unfold natF numOf
  rw [hsz, hb]
  generalize s.data.toList = l
  cases l with
  | nil => simp [parseUintB, okOf]
  | cons c r =>
    have hp : parseUintB 64 (c :: r) = parseUintM 18446744073709551615 0 (c :: r) := by unfold parseUintB; rw [if_neg (by simp), e64]
    rw [natRest_eq, hp]
    have hle := fun u => parseUintM_le 18446744073709551615 (c :: r) 0 u (Nat.zero_le _)
    cases hq : parseUintM 18446744073709551615 0 (c :: r) with
    | ok u =>
      have hu := hle u hq
      simp only [okOf]
      have hkey : decDigits u = c :: r ↔ ¬ ((c :: r).length < 1 ∨ 20 < (c :: r).length ∨ (1 < (c :: r).length ∧ (((c :: r)[0]?.getD 0).toNat : Int) = 48)) := by
        have e0 : (c :: r)[0]?.getD 0 = c := rfl
        rw [e0]
        constructor
        · intro hd hh
          have hl := dec_len (u := u) (by omega)
          rw [hd] at hl
          rcases hh with hh | hh | ⟨hh, hc⟩
          · simp at hh
          · omega
          · have hc2 : c.toNat = 48 := by exact_mod_cast hc
            by_cases h1 : 1 ≤ u
            · obtain ⟨c', r', he, hn⟩ := dec_head u h1
              rw [hd] at he
              cases he
              exact hn hc2
            · have : u = 0 := by omega
              subst this
              rw [decDigits_one (by omega)] at hd
              cases hd
              simp at hh
        · intro hh
          refine dec_parse0 hq ?_
          rintro ⟨hr, hc⟩
          refine hh (.inr (.inr ⟨?_, by rw [hc]; rfl⟩))
          have : 0 < r.length := List.length_pos_iff.2 hr
          simp
          omega
      by_cases hd : decDigits u = c :: r
      · rw [if_neg (hkey.1 hd), if_pos hd]
      · rw [if_pos (Classical.byContradiction fun h => hd (hkey.2 h)), if_neg hd]
    | _ => simp [okOf]
end Go.Rx
/- Value of both, and the law's comparison of tags. -/
namespace Go.Rx
open Go Go.RowKit
set_option linter.unusedVariables false
set_option linter.unusedSimpArgs false
theorem Tg.eqL_enc (x y : Tg) : eqL x.enc y.enc = decide (x = y) := by
  cases x; cases y
  simp [Tg.enc, eqL, eqV, Bool.decide_and]
theorem valueF_hit {xs : List Tg} {tag : Int} {i : Nat} (hi : i < xs.length) (hn : ∀ j < i, (xs[j]!).tag ≠ tag) (h : (xs[i]!).tag = tag) : valueF xs tag = some (xs[i]!).value := by
  unfold valueF
  have : xs.find? (fun t => decide (t.tag = tag)) = some xs[i]! := by
    rw [List.find?_eq_some_iff_getElem]
    refine ⟨by simpa using h, i, hi, by rw [getElem!_pos xs i hi], fun j hj => ?_⟩
    have := hn j hj
    rw [getElem!_pos xs j (by omega)] at this
    simpa using this
  rw [this]
  rfl
theorem valueF_miss {xs : List Tg} {tag : Int} (hn : ∀ j < xs.length, (xs[j]!).tag ≠ tag) : valueF xs tag = none := by
  unfold valueF
  have : xs.find? (fun t => decide (t.tag = tag)) = none := by
    rw [List.find?_eq_none]
    intro t ht
    obtain ⟨j, hj, rfl⟩ := List.getElem_of_mem ht
    have := hn j hj
    rw [getElem!_pos xs j hj] at this
    simpa using this
  rw [this]
  rfl
theorem valueF_mem {xs : List Tg} {tag : Int} {s : ByteArray} (h : valueF xs tag = some s) : ∃ t ∈ xs, t.value = s := by
  unfold valueF at h
  rw [Option.map_eq_some_iff] at h
  obtain ⟨t, ht, rfl⟩ := h
  exact ⟨t, List.mem_of_find?_eq_some ht, rfl⟩
set_option maxHeartbeats 1000000 in
set_option maxRecDepth 100000 in
theorem textValue {w : World} {v : Value} {xs : List Tg} {tag : Int} (hr : RSl Tg.enc 2 w [] v xs) :
    Spec Go.Proofs.Tryz.prog 71 #[v, .int .i64 tag] w [] (fun u _ => u = valueV (valueF xs tag)) := by
  have hsm := hr.small
  refine Spec.enter (fn := Go.Proofs.Tryz.f71) (n := 21) [v, .int .i64 tag] Go.Proofs.Tryz.func71 (by kernel_rfl) rfl Go.Proofs.Tryz.ntmps71 Go.Proofs.Tryz.results71 rfl (Own.nil _) ?_
  refine JC.rs ?_
  refine Seq.p rfl Ev.assign ?_
  refine Seq.p rfl Ev.assign ?_
  refine Seq.nil ?_
  refine JC.seq ?_
  refine JC.rs ?_
  refine Seq.p rfl Ev.move ?_
  refine Seq.p rfl (Ev.lenSl sl.sl_api_Tag (hr := hr.r)) ?_
  refine Seq.p rfl Ev.move ?_
  refine Seq.nil ?_
  refine JC.blk ?_
  refine JC.loop (α := Nat) (I := fun i e1 H1 => Has [4, 5, 7, 10, 11, 12, 13, 14, 15, 16, 17, 18, 19, 20] [(10, .int .i64 (i : Int))] _ e1 ∧ H1 = _ ∧ i ≤ xs.length ∧ ∀ j < i, (xs[j]!).tag ≠ tag) (μ := fun i => xs.length - i) 0 ⟨Has.mk Off.refl (allLook_cons (by repeat (first | exact Look.here | apply Look.there (hne := rfl) | exact Look.const | apply Look.mix rfl | exact Look.arg0 | apply Look.args | exact Look.func)) allLook_nil), rfl, by omega, by omega⟩ ?_
  rintro i _ _ ⟨⟨u, rfl⟩, rfl, hi, hno⟩; dsimp only [setL]
  refine JC.rs ?_
  refine Seq.p rfl Ev.lt ?_
  refine Seq.nil ?_
  refine JC.seq ?_
  first | refine JC.c (ht := fun c11 => ?_) (hf := fun c11 => ?_) | refine JC.cb (ht := fun c11 => ?_) (hf := fun c11 => ?_)
  · -- then_t11
    have hi2 : i < xs.length := by omega
    refine JC.skip ?_
    refine JC.seq ?_
    refine JC.blk ?_
    refine JC.rs ?_
    refine Seq.p rfl (Ev.iaN sl.sl_api_Tag (hr := hr.r)) ?_
    refine Seq.p rfl (Ev.ldEA ag.api_Tag (hr := hr.r)) ?_
    refine Seq.alloc (cs := [_, _]) (hz := z.api_Tag) (k := ?_); intro b7
    refine Seq.storeN [_, _] sz.api_Tag (k := ?_)
    refine Seq.nil ?_
    refine JC.rs ?_
    refine Seq.p rfl (Ev.faB fd.api_Tag_0) ?_
    refine Seq.p rfl (Ev.ldB sc.int) ?_
    refine Seq.p rfl Ev.move ?_
    refine Seq.p rfl Ev.eq ?_
    refine Seq.nil ?_
    first | refine JC.c (ht := fun c17 => ?_) (hf := fun c17 => ?_) | refine JC.cb (ht := fun c17 => ?_) (hf := fun c17 => ?_)
    · -- then_t17
      refine JC.rs ?_
      refine Seq.p rfl (Ev.faB fd.api_Tag_1) ?_
      refine Seq.p rfl (Ev.ldB sc.string) ?_
      refine Seq.p rfl Ev.assign ?_
      refine Seq.p rfl Ev.assign ?_
      refine Seq.nil ?_
      refine JC.ret ?_
      -- return 0
      show retQ _ _ _ _ _ _ _ _
      refine ret2 (hp := Part.nil _) (hpost := ?_)
      rw [valueF_hit hi2 hno c17]
      rfl
    · -- else_t17
      refine JC.skip ?_
      refine JC.reg ?_
      refine Seq.p rfl (by first | exact Ev.inc | exact Ev.add) ?_
      refine Seq.p rfl Ev.move ?_
      refine Seq.nil ?_
      refine ⟨i + 1, _, Part.skip (Part.refl _), ⟨Has.mk (by repeat (first | refine Off.upd ?_ rfl | exact Off.mix | refine Off.mix2 ?_ rfl | exact Off.refl)) (allLook_cons (by repeat (first | exact Look.here | apply Look.there (hne := rfl) | exact Look.const | apply Look.mix rfl | exact Look.arg0 | apply Look.args | exact Look.func)) allLook_nil), rfl, by omega, fun j hj => ?_⟩, by omega⟩
      by_cases h : j = i
      · rw [h]; exact c17
      · exact hno j (by omega)
  · -- else_t11
    refine JC.exit ?_ -- 0
    refine JC.rs ?_
    refine Seq.p rfl Ev.assign ?_
    refine Seq.p rfl Ev.assign ?_
    refine Seq.nil ?_
    refine JC.ret ?_
    -- return 1
    show retQ _ _ _ _ _ _ _ _
    refine ret2 (hp := Part.nil _) (hpost := ?_)
    rw [valueF_miss (fun j hj => hno j (by omega))]
    rfl
set_option maxHeartbeats 1000000 in
set_option maxRecDepth 100000 in
theorem refValue {w : World} {v : Value} {xs : List Tg} {tag : Int} (hr : RSl Tg.enc 2 w [] v xs) :
    Spec Go.Proofs.Tryz.prog 48 #[v, .int .i64 tag] w [] (fun u _ => u = valueV (valueF xs tag)) := by
  have hsm := hr.small
  refine Spec.enter (fn := Go.Proofs.Tryz.f48) (n := 25) [v, .int .i64 tag] Go.Proofs.Tryz.func48 (by kernel_rfl) rfl Go.Proofs.Tryz.ntmps48 Go.Proofs.Tryz.results48 rfl (Own.nil _) ?_
  refine JC.rs ?_
  refine Seq.p rfl Ev.assign ?_
  refine Seq.p rfl Ev.assign ?_
  refine Seq.nil ?_
  refine JC.seq ?_
  refine JC.rs ?_
  refine Seq.p rfl Ev.assign ?_
  refine Seq.nil ?_
  refine JC.blk ?_
  refine JC.loop (α := Nat) (I := fun i e1 H1 => Has [4, 5, 6, 7, 8, 9, 10, 11, 12, 13, 14, 15, 16, 17, 18, 19, 20, 21, 22, 23, 24] [(6, .int .i64 (i : Int))] _ e1 ∧ H1 = _ ∧ i ≤ xs.length ∧ ∀ j < i, (xs[j]!).tag ≠ tag) (μ := fun i => xs.length - i) 0 ⟨Has.mk Off.refl (allLook_cons (by repeat (first | exact Look.here | apply Look.there (hne := rfl) | exact Look.const | apply Look.mix rfl | exact Look.arg0 | apply Look.args | exact Look.func)) allLook_nil), rfl, by omega, by omega⟩ ?_
  rintro i _ _ ⟨⟨u, rfl⟩, rfl, hi, hno⟩; dsimp only [setL]
  refine JC.seq ?_
  refine JC.rs ?_
  refine Seq.p rfl Ev.move ?_
  refine Seq.p rfl Ev.move ?_
  refine Seq.p rfl (Ev.lenSl sl.sl_api_Tag (hr := hr.r)) ?_
  refine Seq.p rfl Ev.lt ?_
  refine Seq.nil ?_
  first | refine JC.c (ht := fun c10 => ?_) (hf := fun c10 => ?_) | refine JC.cb (ht := fun c10 => ?_) (hf := fun c10 => ?_)
  · -- then_t10
    have hi2 : i < xs.length := by omega
    refine JC.skip ?_
    refine JC.seq ?_
    refine JC.blk ?_
    refine JC.rs ?_
    refine Seq.p rfl Ev.move ?_
    refine Seq.p rfl Ev.move ?_
    refine Seq.p rfl (Ev.iaN sl.sl_api_Tag (hr := hr.r)) ?_
    refine Seq.p rfl (Ev.fa fd.api_Tag_0) ?_
    refine Seq.p rfl (Ev.ldE sc.int (hr := hr.r)) ?_
    refine Seq.p rfl Ev.move ?_
    refine Seq.p rfl Ev.eq ?_
    refine Seq.nil ?_
    first | refine JC.c (ht := fun c19 => ?_) (hf := fun c19 => ?_) | refine JC.cb (ht := fun c19 => ?_) (hf := fun c19 => ?_)
    · -- then_t19
      refine JC.rs ?_
      refine Seq.p rfl Ev.move ?_
      refine Seq.p rfl Ev.move ?_
      refine Seq.p rfl (Ev.iaN sl.sl_api_Tag (hr := hr.r)) ?_
      refine Seq.p rfl (Ev.fa fd.api_Tag_1) ?_
      refine Seq.p rfl (Ev.ldE sc.string (hr := hr.r)) ?_
      refine Seq.p rfl Ev.assign ?_
      refine Seq.p rfl Ev.assign ?_
      refine Seq.nil ?_
      refine JC.ret ?_
      -- return 0
      show retQ _ _ _ _ _ _ _ _
      refine ret2 (hp := Part.nil _) (hpost := ?_)
      rw [valueF_hit hi2 hno c19]
      rfl
    · -- else_t19
      refine JC.skip ?_
      refine JC.reg ?_
      refine Seq.p rfl Ev.move ?_
      refine Seq.p rfl (by first | exact Ev.inc | exact Ev.add) ?_
      refine Seq.p rfl Ev.assign ?_
      refine Seq.nil ?_
      refine ⟨i + 1, _, Part.refl _, ⟨Has.mk (by repeat (first | refine Off.upd ?_ rfl | exact Off.mix | refine Off.mix2 ?_ rfl | exact Off.refl)) (allLook_cons (by repeat (first | exact Look.here | apply Look.there (hne := rfl) | exact Look.const | apply Look.mix rfl | exact Look.arg0 | apply Look.args | exact Look.func)) allLook_nil), rfl, by omega, fun j hj => ?_⟩, by omega⟩
      by_cases h : j = i
      · rw [h]; exact c19
      · exact hno j (by omega)
  · -- else_t10
    refine JC.exit ?_ -- 0
    refine JC.rs ?_
    refine Seq.p rfl Ev.assign ?_
    refine Seq.p rfl Ev.assign ?_
    refine Seq.nil ?_
    refine JC.ret ?_
    -- return 1
    show retQ _ _ _ _ _ _ _ _
    refine ret2 (hp := Part.nil _) (hpost := ?_)
    rw [valueF_miss (fun j hj => hno j (by omega))]
    rfl
theorem tg_eq_iff_get (xs ys : List Tg) (h : xs.length = ys.length) : xs = ys ↔ ∀ j, j < xs.length → xs[j]! = ys[j]! := by
  constructor
  · rintro rfl _ _; rfl
  · intro hg
    refine List.ext_getElem h (fun i h1 h2 => ?_)
    have := hg i h1
    rwa [getElem!_pos xs i h1, getElem!_pos ys i h2] at this
theorem natF_start {s : ByteArray} (h : (decide ((s.size : Int) < 1) || decide (20 < (s.size : Int)) || decide (1 < (s.size : Int)) && decide (bAt s (Int.toNat 0) = 48)) = false) : natF s = natRest (s.data.toList.drop 0) 0 := by
  simp only [Bool.or_eq_false_iff, Bool.and_eq_false_iff, decide_eq_false_iff_not, Int.toNat_zero] at h
  unfold natF
  rw [if_neg (by omega)]
  rfl
theorem natF_bad {s : ByteArray} (h : (decide ((s.size : Int) < 1) || decide (20 < (s.size : Int)) || decide (1 < (s.size : Int)) && decide (bAt s (Int.toNat 0) = 48)) = true) : natF s = none := by
  simp only [Bool.or_eq_true, Bool.and_eq_true, decide_eq_true_eq, Int.toNat_zero] at h
  unfold natF
  rw [if_pos (by omega)]
theorem natF_len {s : ByteArray} (h : (decide ((s.size : Int) < 1) || decide (20 < (s.size : Int)) || decide (1 < (s.size : Int)) && decide (bAt s (Int.toNat 0) = 48)) = false) : s.size ≤ 20 := by
  simp only [Bool.or_eq_false_iff, Bool.and_eq_false_iff, decide_eq_false_iff_not, Int.toNat_zero] at h
  omega
theorem drop_bAt {s : ByteArray} {i : Nat} (h : i < s.size) : ∃ c : UInt8, bAt s (Int.toNat (i : Int)) = (c.toNat : Int) ∧ s.data.toList.drop i = c :: s.data.toList.drop (i + 1) := by
  have hl : i < s.data.toList.length := by simpa using h
  refine ⟨s.data.toList[i], ?_, List.drop_eq_getElem_cons hl⟩
  unfold bAt
  rw [Int.toNat_natCast, List.getElem?_eq_getElem hl]
  rfl
theorem look_int {e : Env} {x : Operand} {k : IntKind} {a b : Int} (h : Look e x (.int k a)) (hab : a = b) : Look e x (.int k b) := hab ▸ h
set_option maxHeartbeats 1000000 in
set_option maxRecDepth 100000 in
theorem refNatural {w : World} {s : ByteArray} : Spec Go.Proofs.Tryz.prog 49 #[.string s] w [] (fun u _ => u = natV (natF s)) := by
  refine Spec.enter (fn := Go.Proofs.Tryz.f49) (n := 56) [.string s] Go.Proofs.Tryz.func49 (by kernel_rfl) rfl Go.Proofs.Tryz.ntmps49 Go.Proofs.Tryz.results49 rfl (Own.nil _) ?_
  refine JC.rs ?_
  refine Seq.p rfl Ev.assign ?_
  refine Seq.p rfl Ev.assign ?_
  refine Seq.nil ?_
  refine JC.seq ?_
  refine JC.rs ?_
  refine Seq.p rfl Ev.move ?_
  refine Seq.p rfl (Ev.lenStr st.string) ?_
  refine Seq.p rfl Ev.lt ?_
  refine Seq.p rfl Ev.move ?_
  refine Seq.orG (D := [10, 11, 12, 13, 14]) (d := 10) (t := 14) (k := 4) (hn := fun h10 => ?_) (hx := ?_)
  · repeat (first | refine Seq.gn rfl rfl rfl rfl ?_ | refine Seq.gu rfl rfl rfl ?_)
    refine Seq.p rfl Ev.pickT ?_
    exact Seq.nil ⟨rfl, (by repeat (first | with_reducible exact Off.refl | refine Off.upd ?_ rfl | exact Off.mix | refine Off.mix2 ?_ rfl)), Look.here⟩
  apply Exists.intro
  refine ⟨fun h10 => ?_, fun u14 => ?_⟩
  · try simp only [decide_eq_true_eq, decide_eq_false_iff_not, Bool.and_eq_true, Bool.or_eq_true, Bool.not_eq_true', Bool.not_eq_false', Bool.or_eq_false_iff, Bool.and_eq_false_imp] at h10
    refine Seq.gy rfl rfl rfl ?_
    refine Seq.p rfl Ev.move ?_
    refine Seq.gy rfl rfl rfl ?_
    refine Seq.p rfl (Ev.lenStr st.string) ?_
    refine Seq.gy rfl rfl rfl ?_
    refine Seq.p rfl Ev.gt ?_
    refine Seq.p rfl Ev.pickF ?_
    exact Seq.nil ⟨rfl, (by repeat (first | with_reducible exact Off.refl | refine Off.upd ?_ rfl | exact Off.mix | refine Off.mix2 ?_ rfl)), Look.here⟩
  refine Seq.p rfl Ev.move ?_
  refine Seq.orG (D := [15, 16, 17, 18, 19, 20, 21, 22, 23, 24]) (d := 15) (t := 24) (k := 9) (hn := fun h15 => ?_) (hx := ?_)
  · repeat (first | refine Seq.gn rfl rfl rfl rfl ?_ | refine Seq.gu rfl rfl rfl ?_)
    refine Seq.p rfl Ev.pickT ?_
    exact Seq.nil ⟨rfl, (by repeat (first | with_reducible exact Off.refl | refine Off.upd ?_ rfl | exact Off.mix | refine Off.mix2 ?_ rfl)), Look.here⟩
  apply Exists.intro
  refine ⟨fun h15 => ?_, fun u24 => ?_⟩
  · try simp only [decide_eq_true_eq, decide_eq_false_iff_not, Bool.and_eq_true, Bool.or_eq_true, Bool.not_eq_true', Bool.not_eq_false', Bool.or_eq_false_iff, Bool.and_eq_false_imp] at h15
    refine Seq.gy rfl rfl rfl ?_
    refine Seq.p rfl Ev.move ?_
    refine Seq.gy rfl rfl rfl ?_
    refine Seq.p rfl (Ev.lenStr st.string) ?_
    refine Seq.gy rfl rfl rfl ?_
    refine Seq.p rfl Ev.gt ?_
    refine Seq.gy rfl rfl rfl ?_
    refine Seq.p rfl Ev.move ?_
    refine Seq.andG (D := [19, 20, 21, 22, 23]) (d := 19) (t := 23) (k := 4) (hn := fun h19 => ?_) (hx := ?_)
    · repeat (first | refine Seq.gn rfl rfl rfl rfl ?_ | refine Seq.gu rfl rfl rfl ?_)
      refine Seq.gy rfl rfl rfl ?_
      refine Seq.p rfl Ev.pickF ?_
      exact Seq.nil ⟨rfl, (by repeat (first | with_reducible exact Off.refl | refine Off.upd ?_ rfl | exact Off.mix | refine Off.mix2 ?_ rfl)), Look.here⟩
    apply Exists.intro
    refine ⟨fun h19 => ?_, fun u23 => ?_⟩
    · try simp only [decide_eq_true_eq, decide_eq_false_iff_not, Bool.and_eq_true, Bool.or_eq_true, Bool.not_eq_true', Bool.not_eq_false', Bool.or_eq_false_iff, Bool.and_eq_false_imp] at h19
      refine Seq.gy rfl rfl rfl ?_
      refine Seq.p rfl Ev.move ?_
      refine Seq.gy rfl rfl rfl ?_
      refine Seq.p rfl (Ev.indexStr st.string) ?_
      refine Seq.gy rfl rfl rfl ?_
      refine Seq.p rfl Ev.eq ?_
      refine Seq.gy rfl rfl rfl ?_
      refine Seq.p rfl Ev.pickT ?_
      exact Seq.nil ⟨rfl, (by repeat (first | with_reducible exact Off.refl | refine Off.upd ?_ rfl | exact Off.mix | refine Off.mix2 ?_ rfl)), Look.here⟩
    refine Seq.p rfl Ev.pickF ?_
    exact Seq.nil ⟨rfl, (by repeat (first | with_reducible exact Off.refl | refine Off.upd ?_ rfl | exact Off.mix | refine Off.mix2 ?_ rfl)), Look.here⟩
  refine Seq.nil ?_
  first | refine JC.c (ht := fun c24 => ?_) (hf := fun c24 => ?_) | refine JC.cb (ht := fun c24 => ?_) (hf := fun c24 => ?_)
  · -- then_t24
    refine JC.rs ?_
    refine Seq.p rfl Ev.assign ?_
    refine Seq.p rfl Ev.assign ?_
    refine Seq.nil ?_
    refine JC.ret ?_
    -- return 0
    show retQ _ _ _ _ _ _ _ _
    refine ret2 (hp := Part.nil _) (hpost := ?_)
    rw [natF_bad c24]
    rfl
  · -- else_t24
    have h20 := natF_len c24
    refine JC.skip ?_
    refine JC.rs ?_
    refine Seq.p rfl Ev.assign ?_
    refine Seq.nil ?_
    refine JC.seq ?_
    refine JC.rs ?_
    refine Seq.p rfl Ev.assign ?_
    refine Seq.nil ?_
    refine JC.blk ?_
    refine JC.loop (α := Nat × Nat) (I := fun p e1 H1 => Has [2, 3, 4, 5, 6, 25, 26, 27, 28, 29, 30, 31, 32, 33, 34, 35, 36, 37, 38, 39, 40, 41, 42, 43, 44, 45, 46, 47, 48, 49, 50, 51, 52, 53, 54] [(4, .int .u64 (p.2 : Int)), (5, .int .i64 (p.1 : Int))] _ e1 ∧ H1 = _ ∧ p.1 ≤ s.size ∧ p.2 ≤ 18446744073709551615 ∧ natF s = natRest (s.data.toList.drop p.1) p.2) (μ := fun p => s.size - p.1) (0, 0) ⟨Has.mk Off.refl (allLook_cons (by repeat (first | exact Look.here | apply Look.there (hne := rfl) | exact Look.const | apply Look.mix rfl | exact Look.arg0 | apply Look.args | exact Look.func)) (allLook_cons (by repeat (first | exact Look.here | apply Look.there (hne := rfl) | exact Look.const | apply Look.mix rfl | exact Look.arg0 | apply Look.args | exact Look.func)) allLook_nil)), rfl, by omega, by omega, ?_⟩ ?_
    · exact natF_start c24
    rintro ⟨i, n⟩ _ _ ⟨⟨u, rfl⟩, rfl, hi, hn, hq⟩; dsimp only [setL]; dsimp only at hi hn hq
    refine JC.seq ?_
    refine JC.rs ?_
    refine Seq.p rfl Ev.move ?_
    refine Seq.p rfl Ev.move ?_
    refine Seq.p rfl (Ev.lenStr st.string) ?_
    refine Seq.p rfl Ev.lt ?_
    refine Seq.nil ?_
    first | refine JC.c (ht := fun c28 => ?_) (hf := fun c28 => ?_) | refine JC.cb (ht := fun c28 => ?_) (hf := fun c28 => ?_)
    · -- then_t28
      have hi2 : i < s.size := by omega
      obtain ⟨c, hc, hd⟩ := drop_bAt hi2
      have hcb := c.toNat_lt
      rw [hd] at hq
      simp only [natRest] at hq
      refine JC.skip ?_
      refine JC.seq ?_
      refine JC.blk ?_
      refine JC.seq ?_
      refine JC.rs ?_
      refine Seq.p rfl Ev.move ?_
      refine Seq.p rfl Ev.move ?_
      refine Seq.p rfl (Ev.indexStr st.string) ?_
      refine Seq.p rfl Ev.lt ?_
      refine Seq.p rfl Ev.move ?_
      refine Seq.orG (D := [35, 36, 37, 38, 39, 40]) (d := 35) (t := 40) (k := 5) (hn := fun h35 => ?_) (hx := ?_)
      · repeat (first | refine Seq.gn rfl rfl rfl rfl ?_ | refine Seq.gu rfl rfl rfl ?_)
        refine Seq.p rfl Ev.pickT ?_
        exact Seq.nil ⟨rfl, (by repeat (first | with_reducible exact Off.refl | refine Off.upd ?_ rfl | exact Off.mix | refine Off.mix2 ?_ rfl)), Look.here⟩
      apply Exists.intro
      refine ⟨fun h35 => ?_, fun u40 => ?_⟩
      · try simp only [decide_eq_true_eq, decide_eq_false_iff_not, Bool.and_eq_true, Bool.or_eq_true, Bool.not_eq_true', Bool.not_eq_false', Bool.or_eq_false_iff, Bool.and_eq_false_imp] at h35
        refine Seq.gy rfl rfl rfl ?_
        refine Seq.p rfl Ev.move ?_
        refine Seq.gy rfl rfl rfl ?_
        refine Seq.p rfl Ev.move ?_
        refine Seq.gy rfl rfl rfl ?_
        refine Seq.p rfl (Ev.indexStr st.string) ?_
        refine Seq.gy rfl rfl rfl ?_
        refine Seq.p rfl Ev.gt ?_
        refine Seq.p rfl Ev.pickF ?_
        exact Seq.nil ⟨rfl, (by repeat (first | with_reducible exact Off.refl | refine Off.upd ?_ rfl | exact Off.mix | refine Off.mix2 ?_ rfl)), Look.here⟩
      refine Seq.nil ?_
      first | refine JC.c (ht := fun c40 => ?_) (hf := fun c40 => ?_) | refine JC.cb (ht := fun c40 => ?_) (hf := fun c40 => ?_)
      · -- then_t40
        refine JC.rs ?_
        refine Seq.p rfl Ev.assign ?_
        refine Seq.p rfl Ev.assign ?_
        refine Seq.nil ?_
        refine JC.ret ?_
        -- return 1
        show retQ _ _ _ _ _ _ _ _
        refine ret2 (hp := Part.nil _) (hpost := ?_)
        have h40 : c.toNat < 48 ∨ 57 < c.toNat := by rw [hc] at c40; simp only [Bool.or_eq_true, decide_eq_true_eq] at c40; omega
        rw [hq, if_pos h40]
        rfl
      · -- else_t40
        have h40 : ¬ (c.toNat < 48 ∨ 57 < c.toNat) := by rw [hc] at c40; simp only [Bool.or_eq_false_iff, decide_eq_false_iff_not] at c40; omega
        rw [if_neg h40] at hq
        have hw8 : IntKind.u8.wrap ((c.toNat : Int) - 48) = (c.toNat : Int) - 48 := by rw [wrap_u8']; omega
        refine JC.skip ?_
        refine JC.rs ?_
        refine Seq.p rfl Ev.move ?_
        refine Seq.p rfl Ev.move ?_
        refine Seq.p rfl (Ev.indexStr st.string) ?_
        refine Seq.p rfl Ev.subW ?_
        refine Seq.p rfl (Ev.convU64W it.uint8 it.uint64) ?_
        refine Seq.p rfl Ev.assign ?_
        refine Seq.nil ?_
        refine JC.seq ?_
        refine JC.rs ?_
        refine Seq.p rfl Ev.move ?_
        refine Seq.p rfl Ev.move ?_
        refine Seq.p rfl Ev.subU ?_
        refine Seq.p rfl Ev.quoU ?_
        refine Seq.p rfl Ev.gt ?_
        refine Seq.nil ?_
        first | refine JC.c (ht := fun c50 => ?_) (hf := fun c50 => ?_) | refine JC.cb (ht := fun c50 => ?_) (hf := fun c50 => ?_)
        · -- then_t50
          refine JC.rs ?_
          refine Seq.p rfl Ev.assign ?_
          refine Seq.p rfl Ev.assign ?_
          refine Seq.nil ?_
          refine JC.ret ?_
          -- return 2
          show retQ _ _ _ _ _ _ _ _
          refine ret2 (hp := Part.nil _) (hpost := ?_)
          rw [hc, hw8] at c50
          rw [hq, if_pos (by omega)]
          rfl
        · -- else_t50
          refine JC.skip ?_
          refine JC.reg ?_
          refine Seq.p rfl Ev.move ?_
          refine Seq.p rfl Ev.mulU ?_
          refine Seq.p rfl Ev.move ?_
          refine Seq.p rfl Ev.addU ?_
          refine Seq.p rfl Ev.assign ?_
          refine Seq.nil ?_
          refine JC.reg ?_
          refine Seq.p rfl Ev.move ?_
          refine Seq.p rfl (by first | exact Ev.inc | exact Ev.add) ?_
          refine Seq.p rfl Ev.assign ?_
          refine Seq.nil ?_
          rw [hc, hw8] at c50
          rw [if_neg (by omega)] at hq
          refine ⟨(i + 1, n * 10 + (c.toNat - 48)), _, Part.refl _, ⟨Has.mk (by repeat (first | refine Off.upd ?_ rfl | exact Off.mix | refine Off.mix2 ?_ rfl | exact Off.refl)) (allLook_cons (look_int (by repeat (first | exact Look.here | apply Look.there (hne := rfl) | exact Look.const | apply Look.mix rfl | exact Look.arg0 | apply Look.args | exact Look.func)) (by rw [hc, hw8]; omega)) (allLook_cons (by repeat (first | exact Look.here | apply Look.there (hne := rfl) | exact Look.const | apply Look.mix rfl | exact Look.arg0 | apply Look.args | exact Look.func)) allLook_nil)), rfl, by show i + 1 ≤ s.size; omega, by show n * 10 + (c.toNat - 48) ≤ _; omega, hq⟩, by show s.size - (i + 1) < s.size - i; omega⟩
    · -- else_t28
      refine JC.exit ?_ -- 0
      refine JC.rs ?_
      refine Seq.p rfl Ev.move ?_
      refine Seq.p rfl Ev.assign ?_
      refine Seq.p rfl Ev.assign ?_
      refine Seq.nil ?_
      refine JC.ret ?_
      -- return 3
      show retQ _ _ _ _ _ _ _ _
      refine ret2 (hp := Part.nil _) (hpost := ?_)
      obtain rfl : i = s.size := by omega
      rw [hq, List.drop_of_length_le (by simp)]
      rfl
end Go.Rx
/- text.Number: what ParseUint reads, if Decimal writes it back. -/
namespace Go.Proofs.YthpejgmkiomfhaaGreatDoor
open Go Go.RowKit Go.Sort Go.Lib Go.Rx
set_option linter.unusedVariables false
theorem var_below {P : Program} {w w' : World} {n : String} {x : Array Value} (hb : Below w.heap.size w w') (h : w.var? P n = some x) : w'.var? P n = some x := by
  unfold World.var? at *
  cases hg : P.globalNamed n with
  | none => simp [hg] at h
  | some g =>
    simp only [hg, Option.bind_some] at h ⊢
    have hlt : g < w.heap.size := by
      rcases Nat.lt_or_ge g w.heap.size with h' | h'
      · exact h'
      · rw [Array.getElem?_eq_none h'] at h; simp at h
    rw [hb.block g hlt]
    exact h
/-- What the listed tables give. -/
structure LaidT (w : World) : Prop where
  tab : Lib.TabIs Go.Proofs.Tryz.prog w "internal/strconv.uint64pow10" .u64 Lib.pow10Tab
theorem LaidT.below {w w' : World} (h : LaidT w) (hb : Below w.heap.size w w') : LaidT w' := ⟨var_below hb h.tab⟩
/-- What the listed variables give. -/
structure Laid (w : World) : Prop where
  tab : Lib.TabIs Go.Proofs.Tryz.prog w "internal/strconv.uint64pow10" .u64 Lib.pow10Tab
  syn : ∃ tp p, w.var? Go.Proofs.Tryz.prog "strconv.ErrSyntax" = some #[.iface tp p]
  rng : ∃ tp p, w.var? Go.Proofs.Tryz.prog "strconv.ErrRange" = some #[.iface tp p]
theorem Laid.below {w w' : World} (h : Laid w) (hb : Below w.heap.size w w') : Laid w' :=
  ⟨var_below hb h.tab, h.syn.imp fun _ h => h.imp fun _ h => var_below hb h, h.rng.imp fun _ h => h.imp fun _ h => var_below hb h⟩
theorem upd_of_below {w w' : World} (h : Below w.heap.size w w') : Upd w w' [] [] :=
  ⟨h.os, h.tape, h.output, h.size, fun i hi _ => h.block i hi, Own.nil _, fun _ hc => by cases hc⟩
theorem parse_ok (s : ByteArray) (hlim : s.size ≤ 281474976710656) (u : Nat) (h : parseUintB 64 s.data.toList = .ok u) (w : World) :
    Calls Go.Proofs.Tryz.prog 72 #[.string s, .int .i64 10, .int .i64 64] w fun e w' => e = .returned (.tuple #[.int .u64 u, .nilIface]) ∧ Below w.heap.size w w' := by
  refine (Tryz.strconv_ParseUint_10_at64_ok s (by omega) u h w).mono ?_
  rintro e w' ⟨rfl, rfl | rfl⟩
  · exact ⟨rfl, Below.refl _ _⟩
  · exact ⟨rfl, Lib.bytesWorld_below _ _ _⟩
theorem parse_bad (s : ByteArray) (hlim : s.size ≤ 281474976710656) (h : okOf (parseUintB 64 s.data.toList) = none) (w : World) (hL : Laid w) :
    Calls Go.Proofs.Tryz.prog 72 #[.string s, .int .i64 10, .int .i64 64] w fun e w' => ∃ (n : Int) (N : Nat), e = .returned (.tuple #[.int .u64 n, .iface 168 (.pointer (some ⟨N, 0, none⟩))]) ∧ Below w.heap.size w w' := by
  obtain ⟨⟨t1, p1, h1⟩, t2, p2, h2⟩ := And.intro hL.syn hL.rng
  by_cases hS : parseUintB 64 s.data.toList = parseUintB 64 []
  · refine (Tryz.strconv_ParseUint_10_at64_syntax_var s hlim hS t1 p1 w h1).mono ?_
    rintro e w' ⟨N, rfl, -, -, hb⟩
    exact ⟨_, N, rfl, hb⟩
  · have hq : parseUintB 64 s.data.toList = .range := by
      cases hq : parseUintB 64 s.data.toList with
      | ok u => rw [hq] at h; cases h
      | range => rfl
      | _ => exact absurd (hq.trans rfl) hS
    refine (Tryz.strconv_ParseUint_10_at64_range_var s hlim hq t2 p2 w h2).mono ?_
    rintro e w' ⟨N, rfl, -, -, hb⟩
    exact ⟨_, N, rfl, hb⟩
theorem valueC {w : World} {v : Value} {xs : List Tg} {tag : Int} {u : Value} (hr : RSl Tg.enc 2 w [] v xs) (hu : valueV (valueF xs tag) = u) :
    Calls Go.Proofs.Tryz.prog 71 #[v, .int .i64 tag] w fun e w' => e = .returned u ∧ Below w.heap.size w w' := by
  refine (textValue (tag := tag) hr).2.mono ?_
  rintro e w' ⟨_, H', rfl, hu', rfl⟩
  exact ⟨by rw [hu], hu'.below'⟩
theorem bytes_ext {s : ByteArray} {l : List UInt8} : (⟨l.toArray⟩ : ByteArray) = s ↔ l = s.data.toList := by
  constructor
  · rintro rfl; simp
  · rintro rfl; simp
set_option maxHeartbeats 4000000 in
set_option maxRecDepth 100000 in
theorem numberC {w : World} {v : Value} {xs : List Tg} {tag : Int} (hr : RSl Tg.enc 2 w [] v xs) (hsz : ∀ t ∈ xs, t.value.size ≤ 281474976710656) (hL : Laid w) :
    Calls Go.Proofs.Tryz.prog 46 #[v, .int .i64 tag] w fun e w' => e = .returned (numV (valueF xs tag)) ∧ Below w.heap.size w w' := by
  cases hv : valueF xs tag with
  | none =>
    have hval := valueC (tag := tag) (u := .tuple #[.string ⟨#[]⟩, .bool false]) hr (by rw [hv]; rfl)
    go_enter Tryz.func46, Tryz.ntmps46
    go_wp2_with (go_at_call 71; refine hval.mono ?_; rintro e w1 ⟨rfl, hb1⟩)
    go_ret2
    exact ⟨rfl, hb1⟩
  | some s =>
    have hval := valueC (tag := tag) (u := .tuple #[.string s, .bool true]) hr (by rw [hv]; rfl)
    have hlim : s.size ≤ 281474976710656 := by obtain ⟨t, ht, rfl⟩ := valueF_mem hv; exact hsz t ht
    cases hq : okOf (parseUintB 64 s.data.toList) with
    | none =>
      have hn : numV (some s) = .tuple #[.int .u64 0, .int .i64 31] := by simp only [numV, numOf, hq]
      rw [hn]
      go_enter Tryz.func46, Tryz.ntmps46
      go_wp2_with (go_at_call 71; refine hval.mono ?_; rintro e w1 ⟨rfl, hb1⟩)
      go_at_call 72
      refine (parse_bad s hlim hq _ (hL.below hb1)).mono ?_
      rintro e w2 ⟨n, N, rfl, hb2⟩
      go_wp2
      go_ret2
      exact ⟨rfl, hb1.trans (hb2.mono hb1.size)⟩
    | some u =>
      have hq2 : parseUintB 64 s.data.toList = .ok u := by
        cases h : parseUintB 64 s.data.toList with
        | ok u' => rw [h] at hq; simp only [okOf, Option.some.injEq] at hq; rw [hq]
        | _ => rw [h] at hq; cases hq
      have hu : u < 18446744073709551616 := by have h := parseUintB_le hq2; have e64 : (2 : Nat) ^ 64 - 1 = 18446744073709551615 := by decide
                                               omega
      by_cases hd : decDigits u = s.data.toList
      · have hn : numV (some s) = .tuple #[.int .u64 (u : Int), .int .i64 0] := by simp only [numV, numOf, hq, if_pos hd]
        rw [hn]
        have he := bytes_ext.2 hd
        go_enter Tryz.func46, Tryz.ntmps46
        go_wp2_with (go_at_call 71; refine hval.mono ?_; rintro e w1 ⟨rfl, hb1⟩)
        go_at_call 72
        refine (parse_ok s hlim u hq2 _).mono ?_
        rintro e w2 ⟨rfl, hb2⟩
        have hb := hb1.trans (hb2.mono hb1.size)
        have hL2 := (hL.below hb).tab
        go_wp2_with (go_at_call 41; refine (decimalC u hu _ hL2).mono ?_; rintro e w3 ⟨rfl, hb3⟩)
        go_ret2
        exact ⟨rfl, hb.trans (hb3.mono hb.size)⟩
      · have hn : numV (some s) = .tuple #[.int .u64 0, .int .i64 31] := by simp only [numV, numOf, hq, if_neg hd]
        rw [hn]
        have he : ¬ (⟨(decDigits u).toArray⟩ : ByteArray) = s := fun h => hd (bytes_ext.1 h)
        go_enter Tryz.func46, Tryz.ntmps46
        go_wp2_with (go_at_call 71; refine hval.mono ?_; rintro e w1 ⟨rfl, hb1⟩)
        go_at_call 72
        refine (parse_ok s hlim u hq2 _).mono ?_
        rintro e w2 ⟨rfl, hb2⟩
        have hb := hb1.trans (hb2.mono hb1.size)
        have hL2 := (hL.below hb).tab
        go_wp2_with (go_at_call 41; refine (decimalC u hu _ hL2).mono ?_; rintro e w3 ⟨rfl, hb3⟩)
        all_goals first
          | (go_ret2; exact ⟨rfl, hb.trans (hb3.mono hb.size)⟩)
          | (rename_i h; rw [Go.ByteArray.toList_eq] at h; simp [hd] at h)
set_option maxHeartbeats 4000000 in
set_option maxRecDepth 100000 in
theorem refNumberC {w : World} {v : Value} {xs : List Tg} {tag : Int} (hr : RSl Tg.enc 2 w [] v xs) :
    Calls Go.Proofs.Tryz.prog 27 #[v, .int .i64 tag] w fun e w' => e = .returned (numV (valueF xs tag)) ∧ Below w.heap.size w w' := by
  have hV : ∀ u, valueV (valueF xs tag) = u → Calls Go.Proofs.Tryz.prog 48 #[v, .int .i64 tag] w fun e w' => e = .returned u ∧ Below w.heap.size w w' := by
    intro u hu
    refine (refValue (tag := tag) hr).2.mono ?_
    rintro e w' ⟨_, H', rfl, hu', rfl⟩
    exact ⟨by rw [hu], hu'.below'⟩
  have hN : ∀ (s : ByteArray) (w : World) u, natV (natF s) = u → Calls Go.Proofs.Tryz.prog 49 #[.string s] w fun e w' => e = .returned u ∧ Below w.heap.size w w' := by
    intro s w u hu
    refine (refNatural (s := s) (w := w)).2.mono ?_
    rintro e w' ⟨_, H', rfl, hu', rfl⟩
    exact ⟨by rw [hu], hu'.below'⟩
  cases hv : valueF xs tag with
  | none =>
    have hval := hV (.tuple #[.string ⟨#[]⟩, .bool false]) (by rw [hv]; rfl)
    go_enter Tryz.func27, Tryz.ntmps27
    go_wp2_with (go_at_call 48; refine hval.mono ?_; rintro e w1 ⟨rfl, hb1⟩)
    go_ret2
    exact ⟨rfl, hb1⟩
  | some s =>
    have hval := hV (.tuple #[.string s, .bool true]) (by rw [hv]; rfl)
    cases hq : numOf s with
    | none =>
      have hn : numV (some s) = .tuple #[.int .u64 0, .int .i64 31] := by simp only [numV, hq]
      rw [hn]
      have hnat := fun w => hN s w (.tuple #[.int .u64 0, .bool false]) (by rw [natF_eq, hq]; rfl)
      go_enter Tryz.func27, Tryz.ntmps27
      go_wp2_with (first | (go_at_call 48; refine hval.mono ?_; rintro e w1 ⟨rfl, hb1⟩) | (go_at_call 49; refine (hnat _).mono ?_; rintro e w2 ⟨rfl, hb2⟩))
      go_ret2
      exact ⟨rfl, hb1.trans (hb2.mono hb1.size)⟩
    | some u =>
      have hn : numV (some s) = .tuple #[.int .u64 (u : Int), .int .i64 0] := by simp only [numV, hq]
      rw [hn]
      have hnat := fun w => hN s w (.tuple #[.int .u64 (u : Int), .bool true]) (by rw [natF_eq, hq]; rfl)
      go_enter Tryz.func27, Tryz.ntmps27
      go_wp2_with (first | (go_at_call 48; refine hval.mono ?_; rintro e w1 ⟨rfl, hb1⟩) | (go_at_call 49; refine (hnat _).mono ?_; rintro e w2 ⟨rfl, hb2⟩))
      go_ret2
      exact ⟨rfl, hb1.trans (hb2.mono hb1.size)⟩
instance {w : World} : Coe (Laid w) (LaidT w) := ⟨fun h => ⟨h.tab⟩⟩
theorem spec_of_below {f : FuncId} {args : Array Value} {w : World} {v : Value} (he : Go.Rx.Enters Go.Proofs.Tryz.prog f) (h : Calls Go.Proofs.Tryz.prog f args w fun e w' => e = .returned v ∧ Below w.heap.size w w') : Go.Rx.Spec Go.Proofs.Tryz.prog f args w [] (fun u _ => u = v) := by
  refine ⟨he, h.mono ?_⟩
  rintro e w' ⟨rfl, hb⟩
  exact ⟨_, [], rfl, upd_of_below hb, rfl⟩
theorem textNumber {w : World} {v : Value} {xs : List Tg} {tag : Int} (hr : RSl Tg.enc 2 w [] v xs) (hsz : ∀ t ∈ xs, t.value.size ≤ 281474976710656) (hL : Laid w) : Go.Rx.Spec Go.Proofs.Tryz.prog 46 #[v, .int .i64 tag] w [] (fun u _ => u = numV (valueF xs tag)) :=
  spec_of_below ⟨Tryz.f46, Tryz.func46, by kernel_rfl, rfl⟩ (numberC hr hsz hL)
theorem refNumber {w : World} {v : Value} {xs : List Tg} {tag : Int} (hr : RSl Tg.enc 2 w [] v xs) : Go.Rx.Spec Go.Proofs.Tryz.prog 27 #[v, .int .i64 tag] w [] (fun u _ => u = numV (valueF xs tag)) :=
  spec_of_below ⟨Tryz.f27, Tryz.func27, by kernel_rfl, rfl⟩ (refNumberC hr)
theorem textDecimal {w : World} {u : Nat} (hu : u < 18446744073709551616) (hL : LaidT w) : Go.Rx.Spec Go.Proofs.Tryz.prog 41 #[.int .u64 u] w [] (fun v _ => v = .string ⟨(Lib.decDigits u).toArray⟩) :=
  spec_of_below ⟨Tryz.f41, Tryz.func41, by kernel_rfl, rfl⟩ (decimalC u hu w hL.tab)
theorem Laid.t {w : World} (h : Laid w) : LaidT w := ⟨h.tab⟩
theorem Laid.upd {w w' : World} {H : List Chunk} (h : Laid w) (hu : Upd w w' [] H) : Laid w' := h.below hu.below'
theorem LaidT.upd {w w' : World} {H : List Chunk} (h : LaidT w) (hu : Upd w w' [] H) : LaidT w' := h.below hu.below'
end Go.Proofs.YthpejgmkiomfhaaGreatDoor
/- The law bourselaw03.TextValues gives true. -/
namespace Go.Rx
open Go Go.RowKit Go.Proofs.YthpejgmkiomfhaaGreatDoor
set_option linter.unusedVariables false
theorem valueV_form (o : Option ByteArray) : ∃ s b, valueV o = .tuple #[.string s, .bool b] := by
  cases o with
  | none => exact ⟨_, _, rfl⟩
  | some s => exact ⟨_, _, rfl⟩
theorem numV_form (o : Option ByteArray) : ∃ n c, numV o = .tuple #[.int .u64 n, .int .i64 c] := by
  cases o with
  | none => exact ⟨_, _, rfl⟩
  | some s =>
    simp only [numV]
    cases numOf s with
    | none => exact ⟨_, _, rfl⟩
    | some u => exact ⟨_, _, rfl⟩
def fiveT : List Tg := [⟨1, ⟨#[53]⟩⟩]
theorem five_num : numV (valueF fiveT 1) = .tuple #[.int .u64 5, .int .i64 0] := by
  have e1 : valueF fiveT 1 = some ⟨#[53]⟩ := rfl
  have e2 : numOf ⟨#[53]⟩ = some 5 := by rw [← natF_eq]; rfl
  rw [e1]
  simp only [numV, e2]
  rfl
theorem tgOne : ∀ (x : Tg), ∀ u ∈ x.enc, u.oneCell' = true := by
  intro x u hu
  simp [Tg.enc] at hu
  rcases hu with h | h <;> (subst h; rfl)
end Go.Rx
/- From the reading of a call's arguments to tags; from what a row lists to what the walks want. -/
namespace Go.Rx
open Go Go.RowKit
set_option linter.unusedVariables false
section
variable {H : Type} {enc : TypeId × Value → H} {P : Program} {w : World} {base : Nat} {held : Bool}
theorem weights_mem_all {e : TypeId} {n : Nat} : ∀ {ds : List (DataW H)} {d : DataW H}, d ∈ ds → n ∈ d.weights P e → n ∈ DataW.weightsAll P e ds
  | x :: r, d, hd, hn => by
    simp only [DataW.weightsAll, List.mem_append]
    rcases List.mem_cons.1 hd with rfl | hd
    · exact .inl hn
    · exact .inr (weights_mem_all hd hn)
/-- A slice of plain data, and what is told of each row by its reading. -/
theorem open_rows2 {α : Type} [Inhabited α] {en : α → List Value} {dec : List Value → α} {l : List Sort1} {t e : TypeId} {fuel : Nat} {cs : List Value} {x : DataW H × List MemPlace} (Q : List Value → Prop) (ht : P.underlying t = some (.slice e)) (hs : sorts P 20 e = some l) (hpos : 0 < P.bytesOf e)
    (hen : ∀ cs, areSorts l cs = true → en (dec cs) = cs) (hQ : ∀ fuel row y, DataW.trod enc P w base (fun _ => true) held fuel e row = some y → Light P e y.1 → areSorts l row = true → Q row)
    (h : DataW.trod enc P w base (fun _ => true) held fuel t cs = some x) (hl : Light P t x.1) :
    ∃ (A : Option Addr) (c : Nat) (xs : List α), cs = [.slice A xs.length c] ∧ RSl en l.length w [] (.slice A xs.length c) xs ∧ xs.length * P.bytesOf e ≤ reachBytes ∧ ∀ x ∈ xs, Q (en x) := by
  rcases DataW.trod_slice ht h with ⟨rfl, rfl⟩ | ⟨a, len, cap, elems, rest, n, rfl, rfl, rfl, hb, hlc, hcm, hel, hget, hsp, _⟩
  · exact ⟨none, 0, [], rfl, ⟨⟨none, 0, rfl, Nat.le_refl _, fun _ => rfl⟩, by simp, by simp, fun i hi => by simp at hi⟩, by simp, by simp⟩
  · have hw := hl ((elems.map (·.1)).length + (rest.map (·.1)).length |> (· * P.bytesOf e)) (by simp [DataW.weights, ht])
    have hrow : ∀ i, i < len → ∃ row, areSorts l row = true ∧ Q row ∧ ∀ j u, row[j]? = some u → w.cell? ((a.add (i * l.length)).add j) = some u := by
      intro i hi
      have h1 := hget i hi
      have h2 : i < elems.length := by omega
      rw [List.getElem?_eq_getElem h2, Option.bind_eq_some_iff] at h1
      obtain ⟨row, hr1, hr2⟩ := h1
      rw [sorts_cells hs] at hr1
      have g := trod_plain 20 e l hs n row _ hr2
      have hli : Light P e elems[i].1 := fun m hm => hl m (by
        simp only [DataW.weights, ht]
        refine List.mem_cons_of_mem _ (List.mem_append.2 (.inl ?_))
        exact weights_mem_all (List.mem_map.2 ⟨elems[i], List.getElem_mem _, rfl⟩) hm)
      exact ⟨row, g.1, hQ n row _ hr2 hli g.1, (cells?_get hr1).2⟩
    classical
    let f : Nat → α := fun i => if h : i < len then dec (Classical.choose (hrow i h)) else default
    have hf : ∀ i (h : i < len), en (f i) = Classical.choose (hrow i h) := by
      intro i h
      simp only [f, dif_pos h]
      exact hen _ (Classical.choose_spec (hrow i h)).1
    refine ⟨some a, cap, (List.range len).map f, by simp, ⟨⟨some a, cap, by simp, by simpa using hlc, by simp⟩, ?_, ?_, ?_⟩, ?_, ?_⟩
    · simp at hw ⊢
      have : len * 1 ≤ reachBytes := Nat.le_trans (Nat.mul_le_mul (by omega : len ≤ elems.length + rest.length) hpos) hw
      simp only [reachBytes] at this
      omega
    · intro x hx
      obtain ⟨i, hi, rfl⟩ := List.mem_map.1 hx
      have hi' : i < len := by simpa using hi
      rw [hf i hi']
      exact areSorts_length (Classical.choose_spec (hrow i hi')).1
    · intro i hi j u hu
      have hi' : i < len := by simpa using hi
      have e1 : ((List.range len).map f)[i]! = f i := by
        rw [getElem!_pos _ i hi]
        simp
      rw [e1, hf i hi'] at hu
      have := (Classical.choose_spec (hrow i hi')).2.2 j u hu
      rw [Addr.add_add] at this
      exact ⟨by simpa [sbase] using this, by simp⟩
    · simp at hw ⊢
      refine Nat.le_trans (Nat.mul_le_mul_right _ ?_) hw
      omega
    · intro x hx
      obtain ⟨i, hi, rfl⟩ := List.mem_map.1 hx
      have hi' : i < len := by simpa using hi
      rw [hf i hi']
      exact (Classical.choose_spec (hrow i hi')).2.1
end
def Tg.dec : List Value → Tg
  | [.int .i64 n, .string s] => ⟨n, s⟩
  | _ => default
theorem tg_sorts {cs : List Value} (h : areSorts [.int .i64, .str] cs = true) : ∃ n s, cs = [.int .i64 n, .string s] := by
  obtain ⟨c0, r0, rfl, h0, h⟩ := areSorts_cons h
  obtain ⟨c1, r1, rfl, h1, h⟩ := areSorts_cons h
  obtain rfl := areSorts_nil h
  obtain ⟨n0, rfl⟩ := isSort_int h0
  cases c1 <;> simp [isSort] at h1
  exact ⟨_, _, rfl⟩
theorem open_tags {H : Type} {enc : TypeId × Value → H} {W : World} {v : Value} {d : DataW H} {p : List MemPlace} (h : DataW.Trod enc Go.Proofs.Tryz.prog W 0 (fun _ => true) true 55 v d p) (hl : Light Go.Proofs.Tryz.prog 55 d) (hv : ∃ A n c, v = .slice A n c) :
    ∃ xs : List Tg, RSl Tg.enc 2 W [] v xs ∧ (∀ t ∈ xs, t.value.size ≤ 281474976710656) ∧ xs.length * 24 ≤ 140737488355328 := by
  obtain ⟨A, n, c, rfl⟩ := hv
  obtain ⟨fuel, hf⟩ := h
  obtain ⟨A2, c2, xs, h1, r1, l1, w1⟩ := open_rows2 (en := Tg.enc) (dec := Tg.dec) (fun row => ∀ n s, row = [.int .i64 n, .string s] → s.size ≤ reachBytes) Go.Proofs.Tryz.underlying55 so.api_Tag (by rw [byt.api_Tag]; decide) (fun cs h => by
    obtain ⟨n, s, rfl⟩ := tg_sorts h
    rfl) (fun fuel row y hy hly hso n s hrow => by
      obtain ⟨ys, m, _, rfl, _, hyl, hg⟩ := DataW.trod_struct Go.Proofs.Tryz.underlying74 hy
      have h1 : ys.length = 2 := hyl
      have h2 := hg 1 _ rfl
      have h3 : ys[1]? = some ys[1] := List.getElem?_eq_getElem (by omega)
      rw [h3] at h2
      obtain ⟨s', e1, e2, _⟩ := DataW.trod_string Go.Proofs.Tryz.underlying9 h2
      have h4 := light_field Go.Proofs.Tryz.underlying74 hly (i := 1) rfl h3
      have hc : (Go.Proofs.Tryz.prog.cellsOf 9) = 1 := by kernel_rfl
      have e3 : s' = s := by
        subst hrow
        have e1' : ([Value.int .i64 n, Value.string s].drop 1).take (Go.Proofs.Tryz.prog.cellsOf 9) = [.string s'] := e1
        rw [hc] at e1'
        simp at e1'
        exact e1'.symm
      subst e3
      have h5 := h4 s'.data.toList.length (by rw [e2]; simp [DataW.weights])
      simpa using h5) hf hl
  rw [byt.api_Tag] at l1
  have e : (Value.slice A n c).cells.toList = [.slice A n c] := rfl
  rw [e] at h1
  rw [← (List.cons.inj h1).1] at r1
  refine ⟨xs, r1, fun t ht => ?_, by simp only [reachBytes] at l1; omega⟩
  have := w1 t ht _ _ rfl
  simp only [reachBytes] at this
  omega
end Go.Rx
namespace Go.Proofs.YthpejgmkiomfhaaGreatDoor
open Go Go.RowKit Go.Rx Go.ChangeAt
set_option linter.unusedVariables false
theorem gSyn : Go.Proofs.Tryz.prog.globalNamed "strconv.ErrSyntax" = some 2 := by kernel_rfl
theorem gRng : Go.Proofs.Tryz.prog.globalNamed "strconv.ErrRange" = some 3 := by kernel_rfl
theorem gTab : Go.Proofs.Tryz.prog.globalNamed "internal/strconv.uint64pow10" = some 1 := by kernel_rfl
theorem gSynT : (Go.Proofs.Tryz.prog.globals[2]?).map (·.type) = some 130 := by kernel_rfl
theorem gRngT : (Go.Proofs.Tryz.prog.globals[3]?).map (·.type) = some 130 := by kernel_rfl
theorem gTabT : (Go.Proofs.Tryz.prog.globals[1]?).map (·.type) = some 175 := by kernel_rfl
theorem cells146 : Go.Proofs.Tryz.prog.cellsOf 190 = 1 := by kernel_rfl
theorem cells9 : Go.Proofs.Tryz.prog.cellsOf 9 = 1 := by kernel_rfl
theorem cells25 : Go.Proofs.Tryz.prog.cellsOf 24 = 1 := by kernel_rfl
theorem cells135 : Go.Proofs.Tryz.prog.cellsOf 175 = 20 := by kernel_rfl
theorem starErr : "*" ++ "errors.errorString" = "*errors.errorString" := by decide
theorem rowErr (u : TypeId) (h : Go.Proofs.Tryz.prog.typeName? 3 u = some "*errors.errorString") : u = 188 :=
  typeName_ptr_named (nm := "errors.errorString") (by rw [starErr]; kernel_rfl) (by kernel_rfl) (by decide) u (by rw [starErr]; exact h)
/-- What the rows of this seat list. -/
def theLaid : List (String × DataW Unit) := [("math/bits.deBruijn32tab", Rows.laid_math_bits_deBruijn32tab), ("math/bits.deBruijn64tab", Rows.laid_math_bits_deBruijn64tab), ("internal/strconv.uint64pow10", Rows.laid_internal_strconv_uint64pow10), ("strconv.ErrRange", Rows.laid_strconv_ErrRange), ("strconv.ErrSyntax", Rows.laid_strconv_ErrSyntax)]
theorem laid_of_met {W : World} (h : laidMet Go.Proofs.Tryz.prog theLaid W) : Laid W := by
  have h3 := h.tail.tail
  have hT : Lib.TabIs Go.Proofs.Tryz.prog W "internal/strconv.uint64pow10" .u64 Lib.pow10Tab := Lib.tabIs_of_head (zs := Lib.pow10Tab) gTab gTabT Go.Proofs.Tryz.underlying175 Go.Proofs.Tryz.underlying24 cells25 cells135 h3
  obtain ⟨a0, s0, hv0, -, -, -⟩ := laid_sentinel h3.tail gRng gRngT Go.Proofs.Tryz.underlying130 rowErr Go.Proofs.Tryz.underlying188 Go.Proofs.Tryz.underlying190 rfl rfl Go.Proofs.Tryz.underlying9 cells146 cells9
  obtain ⟨a1, s1, hv1, -, -, -⟩ := laid_sentinel h3.tail.tail gSyn gSynT Go.Proofs.Tryz.underlying130 rowErr Go.Proofs.Tryz.underlying188 Go.Proofs.Tryz.underlying190 rfl rfl Go.Proofs.Tryz.underlying9 cells146 cells9
  exact ⟨hT, ⟨_, _, hv1⟩, ⟨_, _, hv0⟩⟩
theorem met_plain {W : World} (h : laidMetH Go.Proofs.Tryz.prog theLaid W) : laidMet Go.Proofs.Tryz.prog theLaid W := h
end Go.Proofs.YthpejgmkiomfhaaGreatDoor
namespace Go.Proofs.YthpejgmkiomfhaaGreatDoor
open Go Go.RowKit Go.Rx Go.ChangeAt
theorem Tryz.own : ownKnob Go.Proofs.Tryz.prog.godebug = none := by kernel_rfl
theorem Tryz.laidOut : laidOutB Go.Proofs.Tryz.prog = true := by kernel_rfl
/-- A listed row of numbers as cells. -/
def tabCells : DataW Unit → Array Value
  | .agg l => (l.map fun
    | .lit (.int k n) => Value.int k n
    | _ => .nilIface).toArray
  | _ => #[]
def synS : ByteArray := { data := #[105, 110, 118, 97, 108, 105, 100, 32, 115, 121, 110, 116, 97, 120] }
def rngS : ByteArray := { data := #[118, 97, 108, 117, 101, 32, 111, 117, 116, 32, 111, 102, 32, 114, 97, 110, 103, 101] }
/-- So many blocks has the settled world. -/
noncomputable def low : Nat := (World.holding Go.Proofs.Tryz.prog default ⟨#[], #[], []⟩).heap.size
def setC (cs : Array Value) : Obj → Obj
  | .cells _ t frozen => .cells cs t frozen
  | o => o
/-- A settled world that holds what the rows list. -/
noncomputable def laidWorld (os : Os) : World :=
  let w0 := World.holding Go.Proofs.Tryz.prog os ⟨#[.cells #[.string synS] 190, .cells #[.string rngS] 190], #[], []⟩
  { w0 with heap := ((((w0.heap.modify 2 (setC #[.iface 188 (.pointer (some ⟨low, 0, none⟩))])).modify 3 (setC #[.iface 188 (.pointer (some ⟨low + 1, 0, none⟩))])).modify 1 (setC (tabCells Rows.laid_internal_strconv_uint64pow10))).modify 4 (setC (tabCells Rows.laid_math_bits_deBruijn32tab))).modify 5 (setC (tabCells Rows.laid_math_bits_deBruijn64tab)) }
theorem laidWorld_met (os : Os) (args : Array Value) : laidMetH Go.Proofs.Tryz.prog theLaid ((laidWorld os).forCall (fun _ _ => 0) ⟨#[], args, []⟩).memory :=
  show laidMet Go.Proofs.Tryz.prog theLaid _ from laidMet_of_run' 8 (by kernel_rfl) (by kernel_rfl)
end Go.Proofs.YthpejgmkiomfhaaGreatDoor
/- Small parts of a line, by the program and by the document: sums, kinds, tags, values, three digits. -/
namespace Go.Rx
open Go Go.RowKit
set_option linter.unusedVariables false
set_option linter.unusedSimpArgs false
def isBytes (l : List Int) : Prop := ∀ x ∈ l, 0 ≤ x ∧ x ≤ 255
def sumB (l : List Int) : Int := l.foldl (fun s x => (s + x) % 256) 0
theorem sumB_snoc {l : List Int} {i : Nat} (h : i < l.length) : sumB (l.take (i + 1)) = (sumB (l.take i) + l[i]!) % 256 := by
  rw [List.take_succ_eq_append_getElem h, getElem!_pos l i h]
  unfold sumB
  rw [List.foldl_append]
  rfl
theorem sumB_range (l : List Int) : 0 ≤ sumB l ∧ sumB l ≤ 255 := by
  unfold sumB
  suffices h : ∀ (l : List Int) (s : Int), 0 ≤ s ∧ s ≤ 255 → 0 ≤ l.foldl (fun s x => (s + x) % 256) s ∧ l.foldl (fun s x => (s + x) % 256) s ≤ 255 from h l 0 (by omega)
  intro l
  induction l with
  | nil => intro s hs; exact hs
  | cons x r ih => intro s hs; exact ih ((s + x) % 256) (by omega)
theorem isBytes_get {l : List Int} (hB : isBytes l) {i : Nat} (h : i < l.length) : 0 ≤ l[i]! ∧ l[i]! ≤ 255 := by
  rw [getElem!_pos l i h]
  exact hB _ (List.getElem_mem _)
set_option maxHeartbeats 1000000 in
set_option maxRecDepth 100000 in
theorem textSum {w : World} {v : Value} {l : List Int} (hr : RSl byteEnc 1 w [] v l) (hB : isBytes l) : Spec Go.Proofs.Tryz.prog 93 #[v] w [] (fun u _ => u = .int .i64 (sumB l)) := by
  have hsm := hr.small
  refine Spec.enter (fn := Go.Proofs.Tryz.f93) (n := 18) [v] Go.Proofs.Tryz.func93 (by kernel_rfl) rfl Go.Proofs.Tryz.ntmps93 Go.Proofs.Tryz.results93 rfl (Own.nil _) ?_
  refine JC.rs ?_
  refine Seq.p rfl Ev.assign ?_
  refine Seq.nil ?_
  refine JC.rs ?_
  refine Seq.p rfl Ev.assign ?_
  refine Seq.nil ?_
  refine JC.seq ?_
  refine JC.rs ?_
  refine Seq.p rfl Ev.move ?_
  refine Seq.p rfl (Ev.lenSl sl.sl_uint8 (hr := hr.r)) ?_
  refine Seq.p rfl Ev.move ?_
  refine Seq.nil ?_
  refine JC.blk ?_
  refine JC.loop (α := Nat) (I := fun i e1 H1 => Has [3, 5, 8, 9, 10, 11, 12, 13, 14, 15] [(3, .int .u8 (sumB (l.take i))), (8, .int .i64 (i : Int))] _ e1 ∧ H1 = _ ∧ i ≤ l.length) (μ := fun i => l.length - i) 0 ⟨Has.mk Off.refl (allLook_cons (by repeat (first | exact Look.here | apply Look.there (hne := rfl) | exact Look.const | apply Look.mix rfl | exact Look.arg0 | apply Look.args | exact Look.func)) (allLook_cons (by repeat (first | exact Look.here | apply Look.there (hne := rfl) | exact Look.const | apply Look.mix rfl | exact Look.arg0 | apply Look.args | exact Look.func)) allLook_nil)), rfl, by omega⟩ ?_
  rintro i _ _ ⟨⟨u, rfl⟩, rfl, hi⟩; dsimp only [setL]
  refine JC.rs ?_
  refine Seq.p rfl Ev.lt ?_
  refine Seq.nil ?_
  refine JC.seq ?_
  first | refine JC.c (ht := fun c9 => ?_) (hf := fun c9 => ?_) | refine JC.cb (ht := fun c9 => ?_) (hf := fun c9 => ?_)
  · -- then_t9
    have hi2 : i < l.length := by omega
    have hg := isBytes_get hB hi2
    have hs := sumB_range (l.take i)
    have hsn := sumB_snoc hi2
    refine JC.skip ?_
    refine JC.seq ?_
    refine JC.blk ?_
    refine JC.rs ?_
    refine Seq.p rfl (Ev.iaN sl.sl_uint8 (hr := hr.r)) ?_
    refine Seq.p rfl (Ev.ldE1 sc.uint8 (hr := hr.r)) ?_
    refine Seq.p rfl Ev.assign ?_
    refine Seq.nil ?_
    refine JC.reg ?_
    refine Seq.p rfl Ev.move ?_
    refine Seq.p rfl Ev.move ?_
    refine Seq.p rfl Ev.addW ?_
    refine Seq.p rfl Ev.assign ?_
    refine Seq.nil ?_
    refine JC.reg ?_
    refine Seq.p rfl (by first | exact Ev.inc | exact Ev.add) ?_
    refine Seq.p rfl Ev.move ?_
    refine Seq.nil ?_
    exact ⟨i + 1, _, Part.refl _, ⟨Has.mk (by repeat (first | refine Off.upd ?_ rfl | exact Off.mix | refine Off.mix2 ?_ rfl | exact Off.refl)) (allLook_cons (look_int (by repeat (first | exact Look.here | apply Look.there (hne := rfl) | exact Look.const | apply Look.mix rfl | exact Look.arg0 | apply Look.args | exact Look.func)) (by rw [hsn]; first | rfl | rw [wrap_u8'])) (allLook_cons (by repeat (first | exact Look.here | apply Look.there (hne := rfl) | exact Look.const | apply Look.mix rfl | exact Look.arg0 | apply Look.args | exact Look.func)) allLook_nil)), rfl, by omega⟩, by omega⟩
  · -- else_t9
    obtain rfl : i = l.length := by omega
    have hs := sumB_range (l.take l.length)
    refine JC.exit ?_ -- 0
    refine JC.rs ?_
    refine Seq.p rfl Ev.move ?_
    refine Seq.p rfl (Ev.conv64 it.uint8 it.int) ?_
    refine Seq.p rfl Ev.assign ?_
    refine Seq.nil ?_
    refine JC.ret ?_
    -- return 0
    show retQ _ _ _ _ _ _ _ _
    refine ret1 (hp := Part.nil _) (hpost := ?_)
    rw [List.take_length]
set_option maxHeartbeats 1000000 in
set_option maxRecDepth 100000 in
theorem refSum {w : World} {v : Value} {l : List Int} (hr : RSl byteEnc 1 w [] v l) (hB : isBytes l) : Spec Go.Proofs.Tryz.prog 76 #[v] w [] (fun u _ => u = .int .i64 (sumB l)) := by
  have hsm := hr.small
  refine Spec.enter (fn := Go.Proofs.Tryz.f76) (n := 20) [v] Go.Proofs.Tryz.func76 (by kernel_rfl) rfl Go.Proofs.Tryz.ntmps76 Go.Proofs.Tryz.results76 rfl (Own.nil _) ?_
  refine JC.rs ?_
  refine Seq.p rfl Ev.assign ?_
  refine Seq.nil ?_
  refine JC.rs ?_
  refine Seq.p rfl Ev.assign ?_
  refine Seq.nil ?_
  refine JC.seq ?_
  refine JC.rs ?_
  refine Seq.p rfl Ev.assign ?_
  refine Seq.nil ?_
  refine JC.blk ?_
  refine JC.loop (α := Nat) (I := fun i e1 H1 => Has [3, 4, 5, 6, 7, 8, 9, 10, 11, 12, 13, 14, 15, 16, 17, 18] [(3, .int .i64 (sumB (l.take i))), (4, .int .i64 (i : Int))] _ e1 ∧ H1 = _ ∧ i ≤ l.length) (μ := fun i => l.length - i) 0 ⟨Has.mk Off.refl (allLook_cons (by repeat (first | exact Look.here | apply Look.there (hne := rfl) | exact Look.const | apply Look.mix rfl | exact Look.arg0 | apply Look.args | exact Look.func)) (allLook_cons (by repeat (first | exact Look.here | apply Look.there (hne := rfl) | exact Look.const | apply Look.mix rfl | exact Look.arg0 | apply Look.args | exact Look.func)) allLook_nil)), rfl, by omega⟩ ?_
  rintro i _ _ ⟨⟨u, rfl⟩, rfl, hi⟩; dsimp only [setL]
  refine JC.seq ?_
  refine JC.rs ?_
  refine Seq.p rfl Ev.move ?_
  refine Seq.p rfl Ev.move ?_
  refine Seq.p rfl (Ev.lenSl sl.sl_uint8 (hr := hr.r)) ?_
  refine Seq.p rfl Ev.lt ?_
  refine Seq.nil ?_
  first | refine JC.c (ht := fun c8 => ?_) (hf := fun c8 => ?_) | refine JC.cb (ht := fun c8 => ?_) (hf := fun c8 => ?_)
  · -- then_t8
    have hi2 : i < l.length := by omega
    have hg := isBytes_get hB hi2
    have hs := sumB_range (l.take i)
    have hsn := sumB_snoc hi2
    refine JC.skip ?_
    refine JC.seq ?_
    refine JC.blk ?_
    refine JC.reg ?_
    refine Seq.p rfl Ev.move ?_
    refine Seq.p rfl Ev.move ?_
    refine Seq.p rfl Ev.move ?_
    refine Seq.p rfl (Ev.iaN sl.sl_uint8 (hr := hr.r)) ?_
    refine Seq.p rfl (Ev.ldE1 sc.uint8 (hr := hr.r)) ?_
    refine Seq.p rfl (Ev.conv64 it.uint8 it.int) ?_
    refine Seq.p rfl Ev.add ?_
    refine Seq.p rfl Ev.rem ?_
    refine Seq.p rfl Ev.assign ?_
    refine Seq.nil ?_
    refine JC.reg ?_
    refine Seq.p rfl Ev.move ?_
    refine Seq.p rfl (by first | exact Ev.inc | exact Ev.add) ?_
    refine Seq.p rfl Ev.assign ?_
    refine Seq.nil ?_
    exact ⟨i + 1, _, Part.refl _, ⟨Has.mk (by repeat (first | refine Off.upd ?_ rfl | exact Off.mix | refine Off.mix2 ?_ rfl | exact Off.refl)) (allLook_cons (look_int (by repeat (first | exact Look.here | apply Look.there (hne := rfl) | exact Look.const | apply Look.mix rfl | exact Look.arg0 | apply Look.args | exact Look.func)) (by first | (rw [hsn]; done) | (rw [hsn]; omega))) (allLook_cons (by repeat (first | exact Look.here | apply Look.there (hne := rfl) | exact Look.const | apply Look.mix rfl | exact Look.arg0 | apply Look.args | exact Look.func)) allLook_nil)), rfl, by omega⟩, by omega⟩
  · -- else_t8
    obtain rfl : i = l.length := by omega
    refine JC.exit ?_ -- 0
    refine JC.rs ?_
    refine Seq.p rfl Ev.move ?_
    refine Seq.p rfl Ev.assign ?_
    refine Seq.nil ?_
    refine JC.ret ?_
    -- return 0
    show retQ _ _ _ _ _ _ _ _
    refine ret1 (hp := Part.nil _) (hpost := ?_)
    rw [List.take_length]
/-! kinds, values, tags -/
def alnum (c : Int) : Bool := (decide (65 ≤ c) && decide (c ≤ 90)) || (decide (97 ≤ c) && decide (c ≤ 122)) || (decide (48 ≤ c) && decide (c ≤ 57))
def kindB (s : ByteArray) : Bool := (decide (s.size = 1) || decide (s.size = 2)) && (bytesOf s).all alnum
def printB (c : Int) : Bool := decide (32 ≤ c) && decide (c ≤ 126)
def valueB (s : ByteArray) : Bool := decide (1 ≤ s.size) && (bytesOf s).all printB
def tagB (n : Int) : Bool := decide (1 ≤ n) && decide (n ≤ 9999) && decide (n ≠ 8) && decide (n ≠ 9) && decide (n ≠ 10) && decide (n ≠ 35)
theorem bytesOf_get {s : ByteArray} {i : Nat} (h : i < (bytesOf s).length) : (bytesOf s)[i] = bAt s i := by
  have h2 : i < s.data.toList.length := by rw [bytesOf_length] at h; simpa using h
  have e : (bytesOf s)[i]? = some (bAt s i) := by
    unfold bytesOf bAt
    rw [List.getElem?_map, List.getElem?_eq_getElem h2]
    rfl
  rw [List.getElem?_eq_getElem h] at e
  exact Option.some.inj e
theorem bytesOf_all {s : ByteArray} {p : Int → Bool} : (bytesOf s).all p = true ↔ ∀ i < s.size, p (bAt s i) = true := by
  have hl : (bytesOf s).length = s.size := bytesOf_length s
  rw [List.all_eq_true]
  constructor
  · intro h i hi
    rw [← bytesOf_get (s := s) (i := i) (by omega)]
    exact h _ (List.getElem_mem _)
  · intro h x hx
    obtain ⟨i, hi, rfl⟩ := List.getElem_of_mem hx
    rw [bytesOf_get hi]
    exact h i (by omega)
theorem bytesOf_notall {s : ByteArray} {p : Int → Bool} {i : Nat} (hi : i < s.size) (h : p (bAt s i) = false) : (bytesOf s).all p = false := by
  cases ha : (bytesOf s).all p with
  | false => rfl
  | true => rw [bytesOf_all.1 ha i hi] at h; cases h
set_option maxHeartbeats 1000000 in
set_option maxRecDepth 100000 in
theorem refKind {w : World} {s : ByteArray} (hsz : s.size ≤ 281474976710656) : Spec Go.Proofs.Tryz.prog 79 #[.string s] w [] (fun u _ => u = .bool (kindB s)) := by
  refine Spec.enter (fn := Go.Proofs.Tryz.f79) (n := 44) [.string s] Go.Proofs.Tryz.func79 (by kernel_rfl) rfl Go.Proofs.Tryz.ntmps79 Go.Proofs.Tryz.results79 rfl (Own.nil _) ?_
  refine JC.rs ?_
  refine Seq.p rfl Ev.assign ?_
  refine Seq.nil ?_
  refine JC.seq ?_
  refine JC.rs ?_
  refine Seq.p rfl Ev.assign ?_
  refine Seq.nil ?_
  refine JC.blk ?_
  refine JC.loop (α := Nat) (I := fun i e1 H1 => Has [2, 3, 4, 5, 6, 7, 8, 9, 10, 11, 12, 13, 14, 15, 16, 17, 18, 19, 20, 21, 22, 23, 24, 25, 26, 27, 28, 29, 30, 31, 32, 33, 34, 35] [(3, .int .i64 (i : Int))] _ e1 ∧ H1 = _ ∧ i ≤ s.size ∧ ∀ j < i, alnum (bAt s j) = true) (μ := fun i => s.size - i) 0 ⟨Has.mk Off.refl (allLook_cons (by repeat (first | exact Look.here | apply Look.there (hne := rfl) | exact Look.const | apply Look.mix rfl | exact Look.arg0 | apply Look.args | exact Look.func)) allLook_nil), rfl, by omega, by omega⟩ ?_
  rintro i _ _ ⟨⟨u, rfl⟩, rfl, hi, hno⟩; dsimp only [setL]
  refine JC.seq ?_
  refine JC.rs ?_
  refine Seq.p rfl Ev.move ?_
  refine Seq.p rfl Ev.move ?_
  refine Seq.p rfl (Ev.lenStr st.string) ?_
  refine Seq.p rfl Ev.lt ?_
  refine Seq.nil ?_
  first | refine JC.c (ht := fun c8 => ?_) (hf := fun c8 => ?_) | refine JC.cb (ht := fun c8 => ?_) (hf := fun c8 => ?_)
  · -- then_t8
    have hi2 : i < s.size := by omega
    refine JC.skip ?_
    refine JC.seq ?_
    refine JC.blk ?_
    refine JC.rs ?_
    refine Seq.p rfl Ev.move ?_
    refine Seq.p rfl Ev.move ?_
    refine Seq.p rfl (Ev.indexStr st.string) ?_
    refine Seq.p rfl Ev.assign ?_
    refine Seq.nil ?_
    refine JC.rs ?_
    refine Seq.p rfl Ev.move ?_
    refine Seq.p rfl Ev.lt ?_
    refine Seq.p rfl Ev.move ?_
    refine Seq.orG (D := [16, 17, 18, 19]) (d := 16) (t := 19) (k := 3) (hn := fun h16 => ?_) (hx := ?_)
    · repeat (first | refine Seq.gn rfl rfl rfl rfl ?_ | refine Seq.gu rfl rfl rfl ?_)
      refine Seq.p rfl Ev.pickT ?_
      exact Seq.nil ⟨rfl, (by repeat (first | with_reducible exact Off.refl | refine Off.upd ?_ rfl | exact Off.mix | refine Off.mix2 ?_ rfl)), Look.here⟩
    apply Exists.intro
    refine ⟨fun h16 => ?_, fun u19 => ?_⟩
    · try simp only [decide_eq_true_eq, decide_eq_false_iff_not, Bool.and_eq_true, Bool.or_eq_true, Bool.not_eq_true', Bool.not_eq_false', Bool.or_eq_false_iff, Bool.and_eq_false_imp] at h16
      refine Seq.gy rfl rfl rfl ?_
      refine Seq.p rfl Ev.move ?_
      refine Seq.gy rfl rfl rfl ?_
      refine Seq.p rfl Ev.gt ?_
      refine Seq.p rfl Ev.pickF ?_
      exact Seq.nil ⟨rfl, (by repeat (first | with_reducible exact Off.refl | refine Off.upd ?_ rfl | exact Off.mix | refine Off.mix2 ?_ rfl)), Look.here⟩
    refine Seq.p rfl Ev.move ?_
    refine Seq.andG (D := [20, 21, 22, 23, 24, 25, 26, 27]) (d := 20) (t := 27) (k := 7) (hn := fun h20 => ?_) (hx := ?_)
    · repeat (first | refine Seq.gn rfl rfl rfl rfl ?_ | refine Seq.gu rfl rfl rfl ?_)
      refine Seq.p rfl Ev.pickF ?_
      exact Seq.nil ⟨rfl, (by repeat (first | with_reducible exact Off.refl | refine Off.upd ?_ rfl | exact Off.mix | refine Off.mix2 ?_ rfl)), Look.here⟩
    apply Exists.intro
    refine ⟨fun h20 => ?_, fun u27 => ?_⟩
    · try simp only [decide_eq_true_eq, decide_eq_false_iff_not, Bool.and_eq_true, Bool.or_eq_true, Bool.not_eq_true', Bool.not_eq_false', Bool.or_eq_false_iff, Bool.and_eq_false_imp] at h20
      refine Seq.gy rfl rfl rfl ?_
      refine Seq.p rfl Ev.move ?_
      refine Seq.gy rfl rfl rfl ?_
      refine Seq.p rfl Ev.lt ?_
      refine Seq.gy rfl rfl rfl ?_
      refine Seq.p rfl Ev.move ?_
      refine Seq.orG (D := [23, 24, 25, 26]) (d := 23) (t := 26) (k := 3) (hn := fun h23 => ?_) (hx := ?_)
      · repeat (first | refine Seq.gn rfl rfl rfl rfl ?_ | refine Seq.gu rfl rfl rfl ?_)
        refine Seq.gy rfl rfl rfl ?_
        refine Seq.p rfl Ev.pickT ?_
        exact Seq.nil ⟨rfl, (by repeat (first | with_reducible exact Off.refl | refine Off.upd ?_ rfl | exact Off.mix | refine Off.mix2 ?_ rfl)), Look.here⟩
      apply Exists.intro
      refine ⟨fun h23 => ?_, fun u26 => ?_⟩
      · try simp only [decide_eq_true_eq, decide_eq_false_iff_not, Bool.and_eq_true, Bool.or_eq_true, Bool.not_eq_true', Bool.not_eq_false', Bool.or_eq_false_iff, Bool.and_eq_false_imp] at h23
        refine Seq.gy rfl rfl rfl ?_
        refine Seq.p rfl Ev.move ?_
        refine Seq.gy rfl rfl rfl ?_
        refine Seq.p rfl Ev.gt ?_
        refine Seq.gy rfl rfl rfl ?_
        refine Seq.p rfl Ev.pickF ?_
        exact Seq.nil ⟨rfl, (by repeat (first | with_reducible exact Off.refl | refine Off.upd ?_ rfl | exact Off.mix | refine Off.mix2 ?_ rfl)), Look.here⟩
      refine Seq.p rfl Ev.pickT ?_
      exact Seq.nil ⟨rfl, (by repeat (first | with_reducible exact Off.refl | refine Off.upd ?_ rfl | exact Off.mix | refine Off.mix2 ?_ rfl)), Look.here⟩
    refine Seq.p rfl Ev.move ?_
    refine Seq.andG (D := [28, 29, 30, 31, 32, 33, 34, 35]) (d := 28) (t := 35) (k := 7) (hn := fun h28 => ?_) (hx := ?_)
    · repeat (first | refine Seq.gn rfl rfl rfl rfl ?_ | refine Seq.gu rfl rfl rfl ?_)
      refine Seq.p rfl Ev.pickF ?_
      exact Seq.nil ⟨rfl, (by repeat (first | with_reducible exact Off.refl | refine Off.upd ?_ rfl | exact Off.mix | refine Off.mix2 ?_ rfl)), Look.here⟩
    apply Exists.intro
    refine ⟨fun h28 => ?_, fun u35 => ?_⟩
    · try simp only [decide_eq_true_eq, decide_eq_false_iff_not, Bool.and_eq_true, Bool.or_eq_true, Bool.not_eq_true', Bool.not_eq_false', Bool.or_eq_false_iff, Bool.and_eq_false_imp] at h28
      refine Seq.gy rfl rfl rfl ?_
      refine Seq.p rfl Ev.move ?_
      refine Seq.gy rfl rfl rfl ?_
      refine Seq.p rfl Ev.lt ?_
      refine Seq.gy rfl rfl rfl ?_
      refine Seq.p rfl Ev.move ?_
      refine Seq.orG (D := [31, 32, 33, 34]) (d := 31) (t := 34) (k := 3) (hn := fun h31 => ?_) (hx := ?_)
      · repeat (first | refine Seq.gn rfl rfl rfl rfl ?_ | refine Seq.gu rfl rfl rfl ?_)
        refine Seq.gy rfl rfl rfl ?_
        refine Seq.p rfl Ev.pickT ?_
        exact Seq.nil ⟨rfl, (by repeat (first | with_reducible exact Off.refl | refine Off.upd ?_ rfl | exact Off.mix | refine Off.mix2 ?_ rfl)), Look.here⟩
      apply Exists.intro
      refine ⟨fun h31 => ?_, fun u34 => ?_⟩
      · try simp only [decide_eq_true_eq, decide_eq_false_iff_not, Bool.and_eq_true, Bool.or_eq_true, Bool.not_eq_true', Bool.not_eq_false', Bool.or_eq_false_iff, Bool.and_eq_false_imp] at h31
        refine Seq.gy rfl rfl rfl ?_
        refine Seq.p rfl Ev.move ?_
        refine Seq.gy rfl rfl rfl ?_
        refine Seq.p rfl Ev.gt ?_
        refine Seq.gy rfl rfl rfl ?_
        refine Seq.p rfl Ev.pickF ?_
        exact Seq.nil ⟨rfl, (by repeat (first | with_reducible exact Off.refl | refine Off.upd ?_ rfl | exact Off.mix | refine Off.mix2 ?_ rfl)), Look.here⟩
      refine Seq.p rfl Ev.pickT ?_
      exact Seq.nil ⟨rfl, (by repeat (first | with_reducible exact Off.refl | refine Off.upd ?_ rfl | exact Off.mix | refine Off.mix2 ?_ rfl)), Look.here⟩
    refine Seq.nil ?_
    first | refine JC.c (ht := fun c35 => ?_) (hf := fun c35 => ?_) | refine JC.cb (ht := fun c35 => ?_) (hf := fun c35 => ?_)
    · -- then_t35
      refine JC.rs ?_
      refine Seq.p rfl Ev.assign ?_
      refine Seq.nil ?_
      refine JC.ret ?_
      -- return 0
      show retQ _ _ _ _ _ _ _ _
      refine ret1 (hp := Part.nil _) (hpost := ?_)
      have : alnum (bAt s i) = false := by simp only [Int.toNat_natCast] at c35; unfold alnum; simp only [Bool.or_eq_false_iff, Bool.and_eq_false_iff, Bool.and_eq_true, Bool.or_eq_true, decide_eq_true_eq, decide_eq_false_iff_not] at c35 ⊢; omega
      unfold kindB
      rw [bytesOf_notall hi2 this, Bool.and_false]
    · -- else_t35
      refine JC.skip ?_
      refine JC.reg ?_
      refine Seq.p rfl Ev.move ?_
      refine Seq.p rfl (by first | exact Ev.inc | exact Ev.add) ?_
      refine Seq.p rfl Ev.assign ?_
      refine Seq.nil ?_
      have hok : alnum (bAt s i) = true := by simp only [Int.toNat_natCast] at c35; unfold alnum; simp only [Bool.or_eq_false_iff, Bool.and_eq_false_iff, Bool.and_eq_true, Bool.or_eq_true, decide_eq_true_eq, decide_eq_false_iff_not] at c35 ⊢; omega
      refine ⟨i + 1, _, Part.refl _, ⟨Has.mk (by repeat (first | refine Off.upd ?_ rfl | exact Off.mix | refine Off.mix2 ?_ rfl | exact Off.refl)) (allLook_cons (by repeat (first | exact Look.here | apply Look.there (hne := rfl) | exact Look.const | apply Look.mix rfl | exact Look.arg0 | apply Look.args | exact Look.func)) allLook_nil), rfl, by omega, fun j hj => ?_⟩, by omega⟩
      by_cases h : j = i
      · rw [h]; exact hok
      · exact hno j (by omega)
  · -- else_t8
    refine JC.exit ?_ -- 0
    refine JC.rs ?_
    refine Seq.p rfl Ev.move ?_
    refine Seq.p rfl (Ev.lenStr st.string) ?_
    refine Seq.p rfl Ev.eq ?_
    refine Seq.p rfl Ev.move ?_
    refine Seq.orG (D := [39, 40, 41, 42, 43]) (d := 39) (t := 43) (k := 4) (hn := fun h39 => ?_) (hx := ?_)
    · repeat (first | refine Seq.gn rfl rfl rfl rfl ?_ | refine Seq.gu rfl rfl rfl ?_)
      refine Seq.p rfl Ev.pickT ?_
      exact Seq.nil ⟨rfl, (by repeat (first | with_reducible exact Off.refl | refine Off.upd ?_ rfl | exact Off.mix | refine Off.mix2 ?_ rfl)), Look.here⟩
    apply Exists.intro
    refine ⟨fun h39 => ?_, fun u43 => ?_⟩
    · try simp only [decide_eq_true_eq, decide_eq_false_iff_not, Bool.and_eq_true, Bool.or_eq_true, Bool.not_eq_true', Bool.not_eq_false', Bool.or_eq_false_iff, Bool.and_eq_false_imp] at h39
      refine Seq.gy rfl rfl rfl ?_
      refine Seq.p rfl Ev.move ?_
      refine Seq.gy rfl rfl rfl ?_
      refine Seq.p rfl (Ev.lenStr st.string) ?_
      refine Seq.gy rfl rfl rfl ?_
      refine Seq.p rfl Ev.eq ?_
      refine Seq.p rfl Ev.pickF ?_
      exact Seq.nil ⟨rfl, (by repeat (first | with_reducible exact Off.refl | refine Off.upd ?_ rfl | exact Off.mix | refine Off.mix2 ?_ rfl)), Look.here⟩
    refine Seq.p rfl Ev.assign ?_
    refine Seq.nil ?_
    refine JC.ret ?_
    -- return 1
    show retQ _ _ _ _ _ _ _ _
    refine ret1 (hp := Part.nil _) (hpost := ?_)
    have ha : (bytesOf s).all alnum = true := bytesOf_all.2 fun j hj => hno j (by omega)
    unfold kindB
    rw [ha, Bool.and_true]
    congr 1
    congr 1 <;> (rw [decide_eq_decide]; omega)
set_option maxHeartbeats 1000000 in
set_option maxRecDepth 100000 in
theorem textIsValue {w : World} {s : ByteArray} (hsz : s.size ≤ 281474976710656) : Spec Go.Proofs.Tryz.prog 90 #[.string s] w [] (fun u _ => u = .bool (valueB s)) := by
  refine Spec.enter (fn := Go.Proofs.Tryz.f90) (n := 23) [.string s] Go.Proofs.Tryz.func90 (by kernel_rfl) rfl Go.Proofs.Tryz.ntmps90 Go.Proofs.Tryz.results90 rfl (Own.nil _) ?_
  refine JC.rs ?_
  refine Seq.p rfl Ev.assign ?_
  refine Seq.nil ?_
  refine JC.seq ?_
  refine JC.rs ?_
  refine Seq.p rfl Ev.move ?_
  refine Seq.p rfl (Ev.lenStr st.string) ?_
  refine Seq.p rfl Ev.move ?_
  refine Seq.nil ?_
  refine JC.blk ?_
  refine JC.loop (α := Nat) (I := fun i e1 H1 => Has [2, 3, 6, 7, 8, 9, 10, 11, 12, 13, 14, 15, 16, 17, 18, 19] [(6, .int .i64 (i : Int))] _ e1 ∧ H1 = _ ∧ i ≤ s.size ∧ ∀ j < i, printB (bAt s j) = true) (μ := fun i => s.size - i) 0 ⟨Has.mk Off.refl (allLook_cons (by repeat (first | exact Look.here | apply Look.there (hne := rfl) | exact Look.const | apply Look.mix rfl | exact Look.arg0 | apply Look.args | exact Look.func)) allLook_nil), rfl, by omega, by omega⟩ ?_
  rintro i _ _ ⟨⟨u, rfl⟩, rfl, hi, hno⟩; dsimp only [setL]
  refine JC.rs ?_
  refine Seq.p rfl Ev.lt ?_
  refine Seq.nil ?_
  refine JC.seq ?_
  first | refine JC.c (ht := fun c7 => ?_) (hf := fun c7 => ?_) | refine JC.cb (ht := fun c7 => ?_) (hf := fun c7 => ?_)
  · -- then_t7
    have hi2 : i < s.size := by omega
    refine JC.skip ?_
    refine JC.seq ?_
    refine JC.blk ?_
    refine JC.rs ?_
    refine Seq.p rfl Ev.move ?_
    refine Seq.p rfl Ev.assign ?_
    refine Seq.nil ?_
    refine JC.rs ?_
    refine Seq.p rfl Ev.move ?_
    refine Seq.p rfl Ev.move ?_
    refine Seq.p rfl (Ev.indexStr st.string) ?_
    refine Seq.p rfl Ev.lt ?_
    refine Seq.p rfl Ev.move ?_
    refine Seq.orG (D := [13, 14, 15, 16, 17, 18]) (d := 13) (t := 18) (k := 5) (hn := fun h13 => ?_) (hx := ?_)
    · repeat (first | refine Seq.gn rfl rfl rfl rfl ?_ | refine Seq.gu rfl rfl rfl ?_)
      refine Seq.p rfl Ev.pickT ?_
      exact Seq.nil ⟨rfl, (by repeat (first | with_reducible exact Off.refl | refine Off.upd ?_ rfl | exact Off.mix | refine Off.mix2 ?_ rfl)), Look.here⟩
    apply Exists.intro
    refine ⟨fun h13 => ?_, fun u18 => ?_⟩
    · try simp only [decide_eq_true_eq, decide_eq_false_iff_not, Bool.and_eq_true, Bool.or_eq_true, Bool.not_eq_true', Bool.not_eq_false', Bool.or_eq_false_iff, Bool.and_eq_false_imp] at h13
      refine Seq.gy rfl rfl rfl ?_
      refine Seq.p rfl Ev.move ?_
      refine Seq.gy rfl rfl rfl ?_
      refine Seq.p rfl Ev.move ?_
      refine Seq.gy rfl rfl rfl ?_
      refine Seq.p rfl (Ev.indexStr st.string) ?_
      refine Seq.gy rfl rfl rfl ?_
      refine Seq.p rfl Ev.gt ?_
      refine Seq.p rfl Ev.pickF ?_
      exact Seq.nil ⟨rfl, (by repeat (first | with_reducible exact Off.refl | refine Off.upd ?_ rfl | exact Off.mix | refine Off.mix2 ?_ rfl)), Look.here⟩
    refine Seq.nil ?_
    first | refine JC.c (ht := fun c18 => ?_) (hf := fun c18 => ?_) | refine JC.cb (ht := fun c18 => ?_) (hf := fun c18 => ?_)
    · -- then_t18
      refine JC.rs ?_
      refine Seq.p rfl Ev.assign ?_
      refine Seq.nil ?_
      refine JC.ret ?_
      -- return 0
      show retQ _ _ _ _ _ _ _ _
      refine ret1 (hp := Part.nil _) (hpost := ?_)
      have : printB (bAt s i) = false := by simp only [Int.toNat_natCast] at c18; unfold printB; simp only [Bool.or_eq_false_iff, Bool.and_eq_false_iff, Bool.and_eq_true, Bool.or_eq_true, decide_eq_true_eq, decide_eq_false_iff_not] at c18 ⊢; omega
      unfold valueB
      rw [bytesOf_notall hi2 this, Bool.and_false]
    · -- else_t18
      refine JC.skip ?_
      refine JC.reg ?_
      refine Seq.p rfl (by first | exact Ev.inc | exact Ev.add) ?_
      refine Seq.p rfl Ev.move ?_
      refine Seq.nil ?_
      have hok : printB (bAt s i) = true := by simp only [Int.toNat_natCast] at c18; unfold printB; simp only [Bool.or_eq_false_iff, Bool.and_eq_false_iff, Bool.and_eq_true, Bool.or_eq_true, decide_eq_true_eq, decide_eq_false_iff_not] at c18 ⊢; omega
      refine ⟨i + 1, _, Part.refl _, ⟨Has.mk (by repeat (first | refine Off.upd ?_ rfl | exact Off.mix | refine Off.mix2 ?_ rfl | exact Off.refl)) (allLook_cons (by repeat (first | exact Look.here | apply Look.there (hne := rfl) | exact Look.const | apply Look.mix rfl | exact Look.arg0 | apply Look.args | exact Look.func)) allLook_nil), rfl, by omega, fun j hj => ?_⟩, by omega⟩
      by_cases h : j = i
      · rw [h]; exact hok
      · exact hno j (by omega)
  · -- else_t7
    refine JC.exit ?_ -- 0
    refine JC.rs ?_
    refine Seq.p rfl Ev.move ?_
    refine Seq.p rfl (Ev.lenStr st.string) ?_
    refine Seq.p rfl Ev.gt ?_
    refine Seq.p rfl Ev.assign ?_
    refine Seq.nil ?_
    refine JC.ret ?_
    -- return 1
    show retQ _ _ _ _ _ _ _ _
    refine ret1 (hp := Part.nil _) (hpost := ?_)
    have ha : (bytesOf s).all printB = true := bytesOf_all.2 fun j hj => hno j (by omega)
    unfold valueB
    rw [ha, Bool.and_true]
    congr 1
    rw [decide_eq_decide]
    omega
set_option maxHeartbeats 1000000 in
set_option maxRecDepth 100000 in
theorem refIsValue {w : World} {s : ByteArray} (hsz : s.size ≤ 281474976710656) : Spec Go.Proofs.Tryz.prog 82 #[.string s] w [] (fun u _ => u = .bool (valueB s)) := by
  refine Spec.enter (fn := Go.Proofs.Tryz.f82) (n := 23) [.string s] Go.Proofs.Tryz.func82 (by kernel_rfl) rfl Go.Proofs.Tryz.ntmps82 Go.Proofs.Tryz.results82 rfl (Own.nil _) ?_
  refine JC.rs ?_
  refine Seq.p rfl Ev.assign ?_
  refine Seq.nil ?_
  refine JC.seq ?_
  refine JC.rs ?_
  refine Seq.p rfl Ev.assign ?_
  refine Seq.nil ?_
  refine JC.blk ?_
  refine JC.loop (α := Nat) (I := fun i e1 H1 => Has [2, 3, 4, 5, 6, 7, 8, 9, 10, 11, 12, 13, 14, 15, 16, 17, 18, 19] [(3, .int .i64 (i : Int))] _ e1 ∧ H1 = _ ∧ i ≤ s.size ∧ ∀ j < i, printB (bAt s j) = true) (μ := fun i => s.size - i) 0 ⟨Has.mk Off.refl (allLook_cons (by repeat (first | exact Look.here | apply Look.there (hne := rfl) | exact Look.const | apply Look.mix rfl | exact Look.arg0 | apply Look.args | exact Look.func)) allLook_nil), rfl, by omega, by omega⟩ ?_
  rintro i _ _ ⟨⟨u, rfl⟩, rfl, hi, hno⟩; dsimp only [setL]
  refine JC.seq ?_
  refine JC.rs ?_
  refine Seq.p rfl Ev.move ?_
  refine Seq.p rfl Ev.move ?_
  refine Seq.p rfl (Ev.lenStr st.string) ?_
  refine Seq.p rfl Ev.lt ?_
  refine Seq.nil ?_
  first | refine JC.c (ht := fun c7 => ?_) (hf := fun c7 => ?_) | refine JC.cb (ht := fun c7 => ?_) (hf := fun c7 => ?_)
  · -- then_t7
    have hi2 : i < s.size := by omega
    refine JC.skip ?_
    refine JC.seq ?_
    refine JC.blk ?_
    refine JC.rs ?_
    refine Seq.p rfl Ev.move ?_
    refine Seq.p rfl Ev.move ?_
    refine Seq.p rfl (Ev.indexStr st.string) ?_
    refine Seq.p rfl Ev.lt ?_
    refine Seq.p rfl Ev.move ?_
    refine Seq.orG (D := [14, 15, 16, 17, 18, 19]) (d := 14) (t := 19) (k := 5) (hn := fun h14 => ?_) (hx := ?_)
    · repeat (first | refine Seq.gn rfl rfl rfl rfl ?_ | refine Seq.gu rfl rfl rfl ?_)
      refine Seq.p rfl Ev.pickT ?_
      exact Seq.nil ⟨rfl, (by repeat (first | with_reducible exact Off.refl | refine Off.upd ?_ rfl | exact Off.mix | refine Off.mix2 ?_ rfl)), Look.here⟩
    apply Exists.intro
    refine ⟨fun h14 => ?_, fun u19 => ?_⟩
    · try simp only [decide_eq_true_eq, decide_eq_false_iff_not, Bool.and_eq_true, Bool.or_eq_true, Bool.not_eq_true', Bool.not_eq_false', Bool.or_eq_false_iff, Bool.and_eq_false_imp] at h14
      refine Seq.gy rfl rfl rfl ?_
      refine Seq.p rfl Ev.move ?_
      refine Seq.gy rfl rfl rfl ?_
      refine Seq.p rfl Ev.move ?_
      refine Seq.gy rfl rfl rfl ?_
      refine Seq.p rfl (Ev.indexStr st.string) ?_
      refine Seq.gy rfl rfl rfl ?_
      refine Seq.p rfl Ev.gt ?_
      refine Seq.p rfl Ev.pickF ?_
      exact Seq.nil ⟨rfl, (by repeat (first | with_reducible exact Off.refl | refine Off.upd ?_ rfl | exact Off.mix | refine Off.mix2 ?_ rfl)), Look.here⟩
    refine Seq.nil ?_
    first | refine JC.c (ht := fun c19 => ?_) (hf := fun c19 => ?_) | refine JC.cb (ht := fun c19 => ?_) (hf := fun c19 => ?_)
    · -- then_t19
      refine JC.rs ?_
      refine Seq.p rfl Ev.assign ?_
      refine Seq.nil ?_
      refine JC.ret ?_
      -- return 0
      show retQ _ _ _ _ _ _ _ _
      refine ret1 (hp := Part.nil _) (hpost := ?_)
      have : printB (bAt s i) = false := by simp only [Int.toNat_natCast] at c19; unfold printB; simp only [Bool.or_eq_false_iff, Bool.and_eq_false_iff, Bool.and_eq_true, Bool.or_eq_true, decide_eq_true_eq, decide_eq_false_iff_not] at c19 ⊢; omega
      unfold valueB
      rw [bytesOf_notall hi2 this, Bool.and_false]
    · -- else_t19
      refine JC.skip ?_
      refine JC.reg ?_
      refine Seq.p rfl Ev.move ?_
      refine Seq.p rfl (by first | exact Ev.inc | exact Ev.add) ?_
      refine Seq.p rfl Ev.assign ?_
      refine Seq.nil ?_
      have hok : printB (bAt s i) = true := by simp only [Int.toNat_natCast] at c19; unfold printB; simp only [Bool.or_eq_false_iff, Bool.and_eq_false_iff, Bool.and_eq_true, Bool.or_eq_true, decide_eq_true_eq, decide_eq_false_iff_not] at c19 ⊢; omega
      refine ⟨i + 1, _, Part.refl _, ⟨Has.mk (by repeat (first | refine Off.upd ?_ rfl | exact Off.mix | refine Off.mix2 ?_ rfl | exact Off.refl)) (allLook_cons (by repeat (first | exact Look.here | apply Look.there (hne := rfl) | exact Look.const | apply Look.mix rfl | exact Look.arg0 | apply Look.args | exact Look.func)) allLook_nil), rfl, by omega, fun j hj => ?_⟩, by omega⟩
      by_cases h : j = i
      · rw [h]; exact hok
      · exact hno j (by omega)
  · -- else_t7
    refine JC.exit ?_ -- 0
    refine JC.rs ?_
    refine Seq.p rfl Ev.move ?_
    refine Seq.p rfl (Ev.lenStr st.string) ?_
    refine Seq.p rfl Ev.ge ?_
    refine Seq.p rfl Ev.assign ?_
    refine Seq.nil ?_
    refine JC.ret ?_
    -- return 1
    show retQ _ _ _ _ _ _ _ _
    refine ret1 (hp := Part.nil _) (hpost := ?_)
    have ha : (bytesOf s).all printB = true := bytesOf_all.2 fun j hj => hno j (by omega)
    unfold valueB
    rw [ha, Bool.and_true]
    congr 1
    rw [decide_eq_decide]
    omega
set_option maxHeartbeats 1000000 in
set_option maxRecDepth 100000 in
theorem refIsTag {w : World} {n : Int} : Spec Go.Proofs.Tryz.prog 80 #[.int .i64 n] w [] (fun u _ => u = .bool (tagB n)) := by
  refine Spec.enter (fn := Go.Proofs.Tryz.f80) (n := 25) [.int .i64 n] Go.Proofs.Tryz.func80 (by kernel_rfl) rfl Go.Proofs.Tryz.ntmps80 Go.Proofs.Tryz.results80 rfl (Own.nil _) ?_
  refine JC.rs ?_
  refine Seq.p rfl Ev.assign ?_
  refine Seq.nil ?_
  refine JC.rs ?_
  refine Seq.p rfl Ev.move ?_
  refine Seq.p rfl Ev.ge ?_
  refine Seq.p rfl Ev.move ?_
  refine Seq.andG (D := [5, 6, 7, 8]) (d := 5) (t := 8) (k := 3) (hn := fun h5 => ?_) (hx := ?_)
  · repeat (first | refine Seq.gn rfl rfl rfl rfl ?_ | refine Seq.gu rfl rfl rfl ?_)
    refine Seq.p rfl Ev.pickF ?_
    exact Seq.nil ⟨rfl, (by repeat (first | with_reducible exact Off.refl | refine Off.upd ?_ rfl | exact Off.mix | refine Off.mix2 ?_ rfl)), Look.here⟩
  apply Exists.intro
  refine ⟨fun h5 => ?_, fun u8 => ?_⟩
  · try simp only [decide_eq_true_eq, decide_eq_false_iff_not, Bool.and_eq_true, Bool.or_eq_true, Bool.not_eq_true', Bool.not_eq_false', Bool.or_eq_false_iff, Bool.and_eq_false_imp] at h5
    refine Seq.gy rfl rfl rfl ?_
    refine Seq.p rfl Ev.move ?_
    refine Seq.gy rfl rfl rfl ?_
    refine Seq.p rfl Ev.le ?_
    refine Seq.p rfl Ev.pickT ?_
    exact Seq.nil ⟨rfl, (by repeat (first | with_reducible exact Off.refl | refine Off.upd ?_ rfl | exact Off.mix | refine Off.mix2 ?_ rfl)), Look.here⟩
  refine Seq.p rfl Ev.move ?_
  refine Seq.andG (D := [9, 10, 11, 12]) (d := 9) (t := 12) (k := 3) (hn := fun h9 => ?_) (hx := ?_)
  · repeat (first | refine Seq.gn rfl rfl rfl rfl ?_ | refine Seq.gu rfl rfl rfl ?_)
    refine Seq.p rfl Ev.pickF ?_
    exact Seq.nil ⟨rfl, (by repeat (first | with_reducible exact Off.refl | refine Off.upd ?_ rfl | exact Off.mix | refine Off.mix2 ?_ rfl)), Look.here⟩
  apply Exists.intro
  refine ⟨fun h9 => ?_, fun u12 => ?_⟩
  · try simp only [decide_eq_true_eq, decide_eq_false_iff_not, Bool.and_eq_true, Bool.or_eq_true, Bool.not_eq_true', Bool.not_eq_false', Bool.or_eq_false_iff, Bool.and_eq_false_imp] at h9
    refine Seq.gy rfl rfl rfl ?_
    refine Seq.p rfl Ev.move ?_
    refine Seq.gy rfl rfl rfl ?_
    refine Seq.p rfl Ev.ne ?_
    refine Seq.p rfl Ev.pickT ?_
    exact Seq.nil ⟨rfl, (by repeat (first | with_reducible exact Off.refl | refine Off.upd ?_ rfl | exact Off.mix | refine Off.mix2 ?_ rfl)), Look.here⟩
  refine Seq.p rfl Ev.move ?_
  refine Seq.andG (D := [13, 14, 15, 16]) (d := 13) (t := 16) (k := 3) (hn := fun h13 => ?_) (hx := ?_)
  · repeat (first | refine Seq.gn rfl rfl rfl rfl ?_ | refine Seq.gu rfl rfl rfl ?_)
    refine Seq.p rfl Ev.pickF ?_
    exact Seq.nil ⟨rfl, (by repeat (first | with_reducible exact Off.refl | refine Off.upd ?_ rfl | exact Off.mix | refine Off.mix2 ?_ rfl)), Look.here⟩
  apply Exists.intro
  refine ⟨fun h13 => ?_, fun u16 => ?_⟩
  · try simp only [decide_eq_true_eq, decide_eq_false_iff_not, Bool.and_eq_true, Bool.or_eq_true, Bool.not_eq_true', Bool.not_eq_false', Bool.or_eq_false_iff, Bool.and_eq_false_imp] at h13
    refine Seq.gy rfl rfl rfl ?_
    refine Seq.p rfl Ev.move ?_
    refine Seq.gy rfl rfl rfl ?_
    refine Seq.p rfl Ev.ne ?_
    refine Seq.p rfl Ev.pickT ?_
    exact Seq.nil ⟨rfl, (by repeat (first | with_reducible exact Off.refl | refine Off.upd ?_ rfl | exact Off.mix | refine Off.mix2 ?_ rfl)), Look.here⟩
  refine Seq.p rfl Ev.move ?_
  refine Seq.andG (D := [17, 18, 19, 20]) (d := 17) (t := 20) (k := 3) (hn := fun h17 => ?_) (hx := ?_)
  · repeat (first | refine Seq.gn rfl rfl rfl rfl ?_ | refine Seq.gu rfl rfl rfl ?_)
    refine Seq.p rfl Ev.pickF ?_
    exact Seq.nil ⟨rfl, (by repeat (first | with_reducible exact Off.refl | refine Off.upd ?_ rfl | exact Off.mix | refine Off.mix2 ?_ rfl)), Look.here⟩
  apply Exists.intro
  refine ⟨fun h17 => ?_, fun u20 => ?_⟩
  · try simp only [decide_eq_true_eq, decide_eq_false_iff_not, Bool.and_eq_true, Bool.or_eq_true, Bool.not_eq_true', Bool.not_eq_false', Bool.or_eq_false_iff, Bool.and_eq_false_imp] at h17
    refine Seq.gy rfl rfl rfl ?_
    refine Seq.p rfl Ev.move ?_
    refine Seq.gy rfl rfl rfl ?_
    refine Seq.p rfl Ev.ne ?_
    refine Seq.p rfl Ev.pickT ?_
    exact Seq.nil ⟨rfl, (by repeat (first | with_reducible exact Off.refl | refine Off.upd ?_ rfl | exact Off.mix | refine Off.mix2 ?_ rfl)), Look.here⟩
  refine Seq.p rfl Ev.move ?_
  refine Seq.andG (D := [21, 22, 23, 24]) (d := 21) (t := 24) (k := 3) (hn := fun h21 => ?_) (hx := ?_)
  · repeat (first | refine Seq.gn rfl rfl rfl rfl ?_ | refine Seq.gu rfl rfl rfl ?_)
    refine Seq.p rfl Ev.pickF ?_
    exact Seq.nil ⟨rfl, (by repeat (first | with_reducible exact Off.refl | refine Off.upd ?_ rfl | exact Off.mix | refine Off.mix2 ?_ rfl)), Look.here⟩
  apply Exists.intro
  refine ⟨fun h21 => ?_, fun u24 => ?_⟩
  · try simp only [decide_eq_true_eq, decide_eq_false_iff_not, Bool.and_eq_true, Bool.or_eq_true, Bool.not_eq_true', Bool.not_eq_false', Bool.or_eq_false_iff, Bool.and_eq_false_imp] at h21
    refine Seq.gy rfl rfl rfl ?_
    refine Seq.p rfl Ev.move ?_
    refine Seq.gy rfl rfl rfl ?_
    refine Seq.p rfl Ev.ne ?_
    refine Seq.p rfl Ev.pickT ?_
    exact Seq.nil ⟨rfl, (by repeat (first | with_reducible exact Off.refl | refine Off.upd ?_ rfl | exact Off.mix | refine Off.mix2 ?_ rfl)), Look.here⟩
  refine Seq.p rfl Ev.assign ?_
  refine Seq.nil ?_
  refine JC.ret ?_
  -- return 0
  show retQ _ _ _ _ _ _ _ _
  refine ret1 (hp := Part.nil _) (hpost := ?_)
  rfl
def thereB (xs : List Tg) (n : Int) : Bool := xs.any fun t => decide (t.tag = n)
theorem thereB_hit {xs : List Tg} {n : Int} {i : Nat} (hi : i < xs.length) (h : (xs[i]!).tag = n) : thereB xs n = true := by
  unfold thereB
  rw [List.any_eq_true]
  exact ⟨xs[i], List.getElem_mem _, by rw [getElem!_pos xs i hi] at h; simpa using h⟩
theorem thereB_miss {xs : List Tg} {n : Int} (h : ∀ j < xs.length, (xs[j]!).tag ≠ n) : thereB xs n = false := by
  unfold thereB
  rw [List.any_eq_false]
  intro t ht
  obtain ⟨j, hj, rfl⟩ := List.getElem_of_mem ht
  have := h j hj
  rw [getElem!_pos xs j hj] at this
  simpa using this
set_option maxHeartbeats 1000000 in
set_option maxRecDepth 100000 in
theorem refThere {w : World} {v : Value} {xs : List Tg} {n : Int} (hr : RSl Tg.enc 2 w [] v xs) : Spec Go.Proofs.Tryz.prog 81 #[v, .int .i64 n] w [] (fun u _ => u = .bool (thereB xs n)) := by
  have hsm := hr.small
  refine Spec.enter (fn := Go.Proofs.Tryz.f81) (n := 19) [v, .int .i64 n] Go.Proofs.Tryz.func81 (by kernel_rfl) rfl Go.Proofs.Tryz.ntmps81 Go.Proofs.Tryz.results81 rfl (Own.nil _) ?_
  refine JC.rs ?_
  refine Seq.p rfl Ev.assign ?_
  refine Seq.nil ?_
  refine JC.seq ?_
  refine JC.rs ?_
  refine Seq.p rfl Ev.assign ?_
  refine Seq.nil ?_
  refine JC.blk ?_
  refine JC.loop (α := Nat) (I := fun i e1 H1 => Has [4, 5, 6, 7, 8, 9, 10, 11, 12, 13, 14, 15, 16, 17, 18] [(5, .int .i64 (i : Int))] _ e1 ∧ H1 = _ ∧ i ≤ xs.length ∧ ∀ j < i, (xs[j]!).tag ≠ n) (μ := fun i => xs.length - i) 0 ⟨Has.mk Off.refl (allLook_cons (by repeat (first | exact Look.here | apply Look.there (hne := rfl) | exact Look.const | apply Look.mix rfl | exact Look.arg0 | apply Look.args | exact Look.func)) allLook_nil), rfl, by omega, by omega⟩ ?_
  rintro i _ _ ⟨⟨u, rfl⟩, rfl, hi, hno⟩; dsimp only [setL]
  refine JC.seq ?_
  refine JC.rs ?_
  refine Seq.p rfl Ev.move ?_
  refine Seq.p rfl Ev.move ?_
  refine Seq.p rfl (Ev.lenSl sl.sl_api_Tag (hr := hr.r)) ?_
  refine Seq.p rfl Ev.lt ?_
  refine Seq.nil ?_
  first | refine JC.c (ht := fun c9 => ?_) (hf := fun c9 => ?_) | refine JC.cb (ht := fun c9 => ?_) (hf := fun c9 => ?_)
  · -- then_t9
    have hi2 : i < xs.length := by omega
    refine JC.skip ?_
    refine JC.seq ?_
    refine JC.blk ?_
    refine JC.rs ?_
    refine Seq.p rfl Ev.move ?_
    refine Seq.p rfl Ev.move ?_
    refine Seq.p rfl (Ev.iaN sl.sl_api_Tag (hr := hr.r)) ?_
    refine Seq.p rfl (Ev.fa fd.api_Tag_0) ?_
    refine Seq.p rfl (Ev.ldE sc.int (hr := hr.r)) ?_
    refine Seq.p rfl Ev.move ?_
    refine Seq.p rfl Ev.eq ?_
    refine Seq.nil ?_
    first | refine JC.c (ht := fun c18 => ?_) (hf := fun c18 => ?_) | refine JC.cb (ht := fun c18 => ?_) (hf := fun c18 => ?_)
    · -- then_t18
      refine JC.rs ?_
      refine Seq.p rfl Ev.assign ?_
      refine Seq.nil ?_
      refine JC.ret ?_
      -- return 0
      show retQ _ _ _ _ _ _ _ _
      refine ret1 (hp := Part.nil _) (hpost := ?_)
      rw [thereB_hit hi2 c18]
    · -- else_t18
      refine JC.skip ?_
      refine JC.reg ?_
      refine Seq.p rfl Ev.move ?_
      refine Seq.p rfl (by first | exact Ev.inc | exact Ev.add) ?_
      refine Seq.p rfl Ev.assign ?_
      refine Seq.nil ?_
      refine ⟨i + 1, _, Part.refl _, ⟨Has.mk (by repeat (first | refine Off.upd ?_ rfl | exact Off.mix | refine Off.mix2 ?_ rfl | exact Off.refl)) (allLook_cons (by repeat (first | exact Look.here | apply Look.there (hne := rfl) | exact Look.const | apply Look.mix rfl | exact Look.arg0 | apply Look.args | exact Look.func)) allLook_nil), rfl, by omega, fun j hj => ?_⟩, by omega⟩
      by_cases h : j = i
      · rw [h]; exact c18
      · exact hno j (by omega)
  · -- else_t9
    refine JC.exit ?_ -- 0
    refine JC.rs ?_
    refine Seq.p rfl Ev.assign ?_
    refine Seq.nil ?_
    refine JC.ret ?_
    -- return 1
    show retQ _ _ _ _ _ _ _ _
    refine ret1 (hp := Part.nil _) (hpost := ?_)
    rw [thereB_miss (fun j hj => hno j (by omega))]
end Go.Rx
/- From the reading of a call's arguments to bytes. -/
namespace Go.Rx
open Go Go.RowKit
set_option linter.unusedVariables false
theorem open_bytesL {H : Type} {enc : TypeId × Value → H} {W : World} {v : Value} {d : DataW H} {p : List MemPlace} (h : DataW.Trod enc Go.Proofs.Tryz.prog W 0 (fun _ => true) true 22 v d p) (hl : Light Go.Proofs.Tryz.prog 22 d) (hv : ∃ A n c, v = .slice A n c) :
    ∃ l : List Int, RSl byteEnc 1 W [] v l ∧ isBytes l ∧ l.length ≤ 140737488351232 := by
  obtain ⟨A, n, c, rfl⟩ := hv
  obtain ⟨fuel, hf⟩ := h
  obtain ⟨A2, c2, xs, h1, r1, w1, w2⟩ := open_bytesAt Go.Proofs.Tryz.underlying22 so.uint8 byt.uint8 hf hl
  have e : (Value.slice A n c).cells.toList = [.slice A n c] := rfl
  rw [e] at h1
  rw [← (List.cons.inj h1).1] at r1
  exact ⟨xs, r1, w1, by simp only [reachBytes] at w2; omega⟩
end Go.Rx
namespace Go.Rx
open Go Go.RowKit
set_option linter.unusedVariables false
set_option linter.unusedSimpArgs false
structure Input where
  kind : Int
  ckind : Int
  id : Int
  target : Int
  member : Int
  side : Int
  type : Int
  price : Int
  qty : Int
  peak : Int
  engine : Int
deriving DecidableEq, Inhabited
def Input.enc (i : Input) : List Value := [.int .i64 i.kind, .int .i64 i.ckind, .int .u64 i.id, .int .u64 i.target, .int .u32 i.member, .int .i64 i.side, .int .i64 i.type, .int .i64 i.price, .int .u64 i.qty, .int .u64 i.peak, .int .i64 i.engine]
structure Fld where
  tag : Int
  num : Int
  fits : Bool
deriving DecidableEq, Inhabited
def Fld.enc (f : Fld) : List Value := [.int .i64 f.tag, .int .u64 f.num, .bool f.fits]
structure RF where
  tag : Int
  most : Int
  word : Int
  shift : Int
deriving DecidableEq, Inhabited
def RF.enc (f : RF) : List Value := [.int .i64 f.tag, .int .u64 f.most, .int .i64 f.word, .int .i64 f.shift]
def wholeF (t n : Int) : Fld := ⟨t, n, true⟩
def upToF (t n m : Int) : Fld := ⟨t, n % 18446744073709551616, decide (0 ≤ n) && decide (n ≤ m)⟩
def s64 (n : Int) : Int := IntKind.i64.wrap n
def inputF (k : Int) (ms : List (Int × Int)) : Input :=
  if k = 4 then ⟨2, 0, 0, 0, 0, 0, 0, 0, 0, 0, s64 (iget ms 9001)⟩
  else ⟨1, s64 k, iget ms 11, iget ms 41, iget ms 1 % 4294967296, s64 (iget ms 54), s64 (iget ms 40), s64 (iget ms 44), iget ms 38, iget ms 210, 0⟩
def nameF (i : Input) : Int := if i.kind = 2 then 4 else if i.kind = 1 ∧ 1 ≤ i.ckind ∧ i.ckind ≤ 3 then i.ckind else 0
def inValF (i : Input) (t : Int) : Int × Bool :=
  if t = 11 then (i.id, true) else if t = 41 then (i.target, true) else if t = 1 then (i.member % 18446744073709551616, true) else if t = 38 then (i.qty, true) else if t = 210 then (i.peak, true)
  else
    let n := if t = 54 then i.side else if t = 40 then i.type else if t = 44 then i.price else if t = 9001 then i.engine else 0
    (n % 18446744073709551616, decide (0 ≤ n))
def withF (i : Input) (t n : Int) : Input :=
  if t = 11 then { i with id := n } else if t = 41 then { i with target := n } else if t = 1 then { i with member := n % 4294967296 } else if t = 38 then { i with qty := n } else if t = 210 then { i with peak := n }
  else if t = 54 then { i with side := s64 n } else if t = 40 then { i with type := s64 n } else if t = 44 then { i with price := s64 n } else if t = 9001 then { i with engine := s64 n } else i
def bareF (k : Int) : Input := if k = 4 then ⟨2, 0, 0, 0, 0, 0, 0, 0, 0, 0, 0⟩ else ⟨1, k, 0, 0, 0, 0, 0, 0, 0, 0, 0⟩
theorem msgWhole {w : World} {t n : Int} : Spec Go.Proofs.Tryz.prog 65 #[.int .i64 t, .int .u64 n] w [] (fun u _ => u = .agg (wholeF t n).enc.toArray) := by
  refine Spec.enter (fn := Go.Proofs.Tryz.f65) (n := 8) [.int .i64 t, .int .u64 n] Go.Proofs.Tryz.func65 (by kernel_rfl) rfl Go.Proofs.Tryz.ntmps65 Go.Proofs.Tryz.results65 rfl (Own.nil _) ?_
  refine JC.rs ?_
  refine Seq.alloc (cs := [_, _, _]) (hz := z.message_field) (k := ?_); intro b4
  refine Seq.nil ?_
  refine JC.rs ?_
  refine Seq.p rfl Ev.move ?_
  refine Seq.p rfl Ev.move ?_
  refine Seq.p rfl (Ev.buildN [_, _, _] pl.message_field z.message_field) ?_
  refine Seq.storeN [_, _, _] sz.message_field (k := ?_)
  refine Seq.nil ?_
  refine JC.ret ?_
  -- return 0
  show retQ _ _ _ _ _ _ _ _
  refine retB1 ag.message_field (hp := Part.nil _) (hpost := ?_)
  rfl
theorem msgUpTo {w : World} {t n m : Int} : Spec Go.Proofs.Tryz.prog 66 #[.int .i64 t, .int .i64 n, .int .i64 m] w [] (fun u _ => u = .agg (upToF t n m).enc.toArray) := by
  refine Spec.enter (fn := Go.Proofs.Tryz.f66) (n := 18) [.int .i64 t, .int .i64 n, .int .i64 m] Go.Proofs.Tryz.func66 (by kernel_rfl) rfl Go.Proofs.Tryz.ntmps66 Go.Proofs.Tryz.results66 rfl (Own.nil _) ?_
  refine JC.rs ?_
  refine Seq.alloc (cs := [_, _, _]) (hz := z.message_field) (k := ?_); intro b6
  refine Seq.nil ?_
  refine JC.rs ?_
  refine Seq.p rfl Ev.move ?_
  refine Seq.p rfl Ev.move ?_
  refine Seq.p rfl (Ev.convU64W it.int it.uint64) ?_
  refine Seq.p rfl Ev.move ?_
  refine Seq.p rfl Ev.ge ?_
  refine Seq.p rfl Ev.move ?_
  refine Seq.andG (D := [12, 13, 14, 15, 16]) (d := 12) (t := 16) (k := 4) (hn := fun h12 => ?_) (hx := ?_)
  · repeat (first | refine Seq.gn rfl rfl rfl rfl ?_ | refine Seq.gu rfl rfl rfl ?_)
    refine Seq.p rfl Ev.pickF ?_
    exact Seq.nil ⟨rfl, (by repeat (first | with_reducible exact Off.refl | refine Off.upd ?_ rfl | exact Off.mix | refine Off.mix2 ?_ rfl)), Look.here⟩
  apply Exists.intro
  refine ⟨fun h12 => ?_, fun u16 => ?_⟩
  · try simp only [decide_eq_true_eq, decide_eq_false_iff_not, Bool.and_eq_true, Bool.or_eq_true, Bool.not_eq_true', Bool.not_eq_false', Bool.or_eq_false_iff, Bool.and_eq_false_imp] at h12
    refine Seq.gy rfl rfl rfl ?_
    refine Seq.p rfl Ev.move ?_
    refine Seq.gy rfl rfl rfl ?_
    refine Seq.p rfl Ev.move ?_
    refine Seq.gy rfl rfl rfl ?_
    refine Seq.p rfl Ev.le ?_
    refine Seq.p rfl Ev.pickT ?_
    exact Seq.nil ⟨rfl, (by repeat (first | with_reducible exact Off.refl | refine Off.upd ?_ rfl | exact Off.mix | refine Off.mix2 ?_ rfl)), Look.here⟩
  refine Seq.p rfl (Ev.buildN [_, _, _] pl.message_field z.message_field) ?_
  refine Seq.storeN [_, _, _] sz.message_field (k := ?_)
  refine Seq.nil ?_
  refine JC.ret ?_
  -- return 0
  show retQ _ _ _ _ _ _ _ _
  refine retB1 ag.message_field (hp := Part.nil _) (hpost := ?_)
  rfl
set_option maxHeartbeats 1000000 in
theorem msgInputOf {w : World} {k : Int} {v : Value} {ms : List (Int × Int)} (hm : RMp .i64 .u64 w [] v ms) : Spec Go.Proofs.Tryz.prog 21 #[.int .u8 k, v] w [] (fun u _ => u = .agg (inputF k ms).enc.toArray) := by
  refine Spec.enter (fn := Go.Proofs.Tryz.f21) (n := 35) [.int .u8 k, v] Go.Proofs.Tryz.func21 (by kernel_rfl) rfl Go.Proofs.Tryz.ntmps21 Go.Proofs.Tryz.results21 rfl (Own.nil _) ?_
  refine JC.rs ?_
  refine Seq.alloc (cs := [_, _, _, _, _, _, _, _, _, _, _]) (hz := z.api_Input) (k := ?_); intro b4
  refine Seq.nil ?_
  refine JC.seq ?_
  refine JC.rs ?_
  refine Seq.p rfl Ev.move ?_
  refine Seq.p rfl Ev.eq ?_
  refine Seq.nil ?_
  first | refine JC.c (ht := fun c6 => ?_) (hf := fun c6 => ?_) | refine JC.cb (ht := fun c6 => ?_) (hf := fun c6 => ?_)
  · -- then_t6
    refine JC.rs ?_
    refine Seq.p rfl Ev.move ?_
    refine Seq.p rfl (Ev.mapI mp.m_int_uint64 z.uint64 hm.r) ?_
    refine Seq.p rfl (Ev.convW it.uint64 it.int) ?_
    refine Seq.p rfl (Ev.buildN [_, _, _, _, _, _, _, _, _, _, _] pl.api_Input z.api_Input) ?_
    refine Seq.storeN [_, _, _, _, _, _, _, _, _, _, _] sz.api_Input (k := ?_)
    refine Seq.nil ?_
    refine JC.ret ?_
    -- return 0
    show retQ _ _ _ _ _ _ _ _
    refine retB1 ag.api_Input (hp := Part.nil _) (hpost := ?_)
    rw [inputF, if_pos c6]
    rfl
  · -- else_t6
    refine JC.skip ?_
    refine JC.rs ?_
    refine Seq.p rfl Ev.move ?_
    refine Seq.p rfl (Ev.convW it.uint8 it.int) ?_
    refine Seq.p rfl Ev.move ?_
    refine Seq.p rfl (Ev.mapI mp.m_int_uint64 z.uint64 hm.r) ?_
    refine Seq.p rfl Ev.move ?_
    refine Seq.p rfl (Ev.mapI mp.m_int_uint64 z.uint64 hm.r) ?_
    refine Seq.p rfl Ev.move ?_
    refine Seq.p rfl (Ev.mapI mp.m_int_uint64 z.uint64 hm.r) ?_
    refine Seq.p rfl (Ev.convU32W it.uint64 it.uint32) ?_
    refine Seq.p rfl Ev.move ?_
    refine Seq.p rfl (Ev.mapI mp.m_int_uint64 z.uint64 hm.r) ?_
    refine Seq.p rfl (Ev.convW it.uint64 it.int) ?_
    refine Seq.p rfl Ev.move ?_
    refine Seq.p rfl (Ev.mapI mp.m_int_uint64 z.uint64 hm.r) ?_
    refine Seq.p rfl (Ev.convW it.uint64 it.int) ?_
    refine Seq.p rfl Ev.move ?_
    refine Seq.p rfl (Ev.mapI mp.m_int_uint64 z.uint64 hm.r) ?_
    refine Seq.p rfl (Ev.convW it.uint64 it.int) ?_
    refine Seq.p rfl Ev.move ?_
    refine Seq.p rfl (Ev.mapI mp.m_int_uint64 z.uint64 hm.r) ?_
    refine Seq.p rfl Ev.move ?_
    refine Seq.p rfl (Ev.mapI mp.m_int_uint64 z.uint64 hm.r) ?_
    refine Seq.p rfl (Ev.buildN [_, _, _, _, _, _, _, _, _] pl.api_Command z.api_Command) ?_
    refine Seq.p rfl (Ev.buildN [_, _, _, _, _, _, _, _, _, _, _] pl.api_Input z.api_Input) ?_
    refine Seq.storeN [_, _, _, _, _, _, _, _, _, _, _] sz.api_Input (k := ?_)
    refine Seq.nil ?_
    refine JC.ret ?_
    -- return 1
    show retQ _ _ _ _ _ _ _ _
    refine retB1 ag.api_Input (hp := Part.nil _) (hpost := ?_)
    rw [inputF, if_neg c6]
    rfl
set_option maxHeartbeats 1000000 in
theorem refName {w : World} {i : Input} : Spec Go.Proofs.Tryz.prog 51 #[.agg i.enc.toArray] w [] (fun u _ => u = .int .i64 (nameF i)) := by
  refine Spec.enter (fn := Go.Proofs.Tryz.f51) (n := 24) [.agg i.enc.toArray] Go.Proofs.Tryz.func51 (by kernel_rfl) rfl Go.Proofs.Tryz.ntmps51 Go.Proofs.Tryz.results51 rfl (Own.nil _) ?_
  refine JC.rs ?_
  refine Seq.box (cs := [_, _, _, _, _, _, _, _, _, _, _]) (k := ?_); intro b1
  refine Seq.p rfl Ev.assign ?_
  refine Seq.nil ?_
  refine JC.seq ?_
  refine JC.rs ?_
  refine Seq.p rfl (Ev.faB fd.api_Input_0) ?_
  refine Seq.p rfl (Ev.ldB sc.int) ?_
  refine Seq.p rfl Ev.eq ?_
  refine Seq.nil ?_
  first | refine JC.c (ht := fun c5 => ?_) (hf := fun c5 => ?_) | refine JC.cb (ht := fun c5 => ?_) (hf := fun c5 => ?_)
  · -- then_t5
    refine JC.rs ?_
    refine Seq.p rfl Ev.assign ?_
    refine Seq.nil ?_
    refine JC.ret ?_
    -- return 0
    show retQ _ _ _ _ _ _ _ _
    refine ret1 (hp := Part.nil _) (hpost := ?_)
    rw [nameF, if_pos c5]
  · -- else_t5
    refine JC.skip ?_
    refine JC.seq ?_
    refine JC.rs ?_
    refine Seq.p rfl (Ev.faB fd.api_Input_0) ?_
    refine Seq.p rfl (Ev.ldB sc.int) ?_
    refine Seq.p rfl Ev.eq ?_
    refine Seq.p rfl Ev.move ?_
    refine Seq.andG (D := [9, 10, 11, 12, 13, 14]) (d := 9) (t := 14) (k := 5) (hn := fun h9 => ?_) (hx := ?_)
    · repeat (first | refine Seq.gn rfl rfl rfl rfl ?_ | refine Seq.gu rfl rfl rfl ?_)
      refine Seq.p rfl Ev.pickF ?_
      exact Seq.nil ⟨rfl, (by repeat (first | with_reducible exact Off.refl | refine Off.upd ?_ rfl | exact Off.mix | refine Off.mix2 ?_ rfl)), Look.here⟩
    apply Exists.intro
    refine ⟨fun h9 => ?_, fun u14 => ?_⟩
    · try simp only [decide_eq_true_eq, decide_eq_false_iff_not, Bool.and_eq_true, Bool.or_eq_true, Bool.not_eq_true', Bool.not_eq_false', Bool.or_eq_false_iff, Bool.and_eq_false_imp] at h9
      refine Seq.gy rfl rfl rfl ?_
      refine Seq.p rfl (Ev.faB fd.api_Input_1) ?_
      refine Seq.gy rfl rfl rfl ?_
      refine Seq.p rfl (Ev.faB fd.api_Command_0) ?_
      refine Seq.gy rfl rfl rfl ?_
      refine Seq.p rfl (Ev.ldB sc.int) ?_
      refine Seq.gy rfl rfl rfl ?_
      refine Seq.p rfl Ev.ge ?_
      refine Seq.p rfl Ev.pickT ?_
      exact Seq.nil ⟨rfl, (by repeat (first | with_reducible exact Off.refl | refine Off.upd ?_ rfl | exact Off.mix | refine Off.mix2 ?_ rfl)), Look.here⟩
    refine Seq.p rfl Ev.move ?_
    refine Seq.andG (D := [15, 16, 17, 18, 19, 20]) (d := 15) (t := 20) (k := 5) (hn := fun h15 => ?_) (hx := ?_)
    · repeat (first | refine Seq.gn rfl rfl rfl rfl ?_ | refine Seq.gu rfl rfl rfl ?_)
      refine Seq.p rfl Ev.pickF ?_
      exact Seq.nil ⟨rfl, (by repeat (first | with_reducible exact Off.refl | refine Off.upd ?_ rfl | exact Off.mix | refine Off.mix2 ?_ rfl)), Look.here⟩
    apply Exists.intro
    refine ⟨fun h15 => ?_, fun u20 => ?_⟩
    · try simp only [decide_eq_true_eq, decide_eq_false_iff_not, Bool.and_eq_true, Bool.or_eq_true, Bool.not_eq_true', Bool.not_eq_false', Bool.or_eq_false_iff, Bool.and_eq_false_imp] at h15
      refine Seq.gy rfl rfl rfl ?_
      refine Seq.p rfl (Ev.faB fd.api_Input_1) ?_
      refine Seq.gy rfl rfl rfl ?_
      refine Seq.p rfl (Ev.faB fd.api_Command_0) ?_
      refine Seq.gy rfl rfl rfl ?_
      refine Seq.p rfl (Ev.ldB sc.int) ?_
      refine Seq.gy rfl rfl rfl ?_
      refine Seq.p rfl Ev.le ?_
      refine Seq.p rfl Ev.pickT ?_
      exact Seq.nil ⟨rfl, (by repeat (first | with_reducible exact Off.refl | refine Off.upd ?_ rfl | exact Off.mix | refine Off.mix2 ?_ rfl)), Look.here⟩
    refine Seq.nil ?_
    first | refine JC.c (ht := fun c20 => ?_) (hf := fun c20 => ?_) | refine JC.cb (ht := fun c20 => ?_) (hf := fun c20 => ?_)
    · -- then_t20
      refine JC.rs ?_
      refine Seq.p rfl (Ev.faB fd.api_Input_1) ?_
      refine Seq.p rfl (Ev.faB fd.api_Command_0) ?_
      refine Seq.p rfl (Ev.ldB sc.int) ?_
      refine Seq.p rfl Ev.assign ?_
      refine Seq.nil ?_
      refine JC.ret ?_
      -- return 1
      show retQ _ _ _ _ _ _ _ _
      refine ret1 (hp := Part.nil _) (hpost := ?_)
      simp only [Bool.and_eq_true, decide_eq_true_eq, and_assoc] at c20
      rw [nameF, if_neg c5, if_pos c20]
    · -- else_t20
      refine JC.skip ?_
      refine JC.rs ?_
      refine Seq.p rfl Ev.assign ?_
      refine Seq.nil ?_
      refine JC.ret ?_
      -- return 2
      show retQ _ _ _ _ _ _ _ _
      refine ret1 (hp := Part.nil _) (hpost := ?_)
      have h : ¬ (i.kind = 1 ∧ 1 ≤ i.ckind ∧ i.ckind ≤ 3) := fun h => by simp [h.1, h.2.1, h.2.2] at c20
      rw [nameF, if_neg c5, if_neg h]
set_option maxHeartbeats 2000000 in
theorem refInVal {w : World} {i : Input} {t : Int} : Spec Go.Proofs.Tryz.prog 78 #[.agg i.enc.toArray, .int .i64 t] w [] (fun u _ => u = .tuple #[.int .u64 (inValF i t).1, .bool (inValF i t).2]) := by
  refine Spec.enter (fn := Go.Proofs.Tryz.f78) (n := 52) [.agg i.enc.toArray, .int .i64 t] Go.Proofs.Tryz.func78 (by kernel_rfl) rfl Go.Proofs.Tryz.ntmps78 Go.Proofs.Tryz.results78 rfl (Own.nil _) ?_
  refine JC.rs ?_
  refine Seq.box (cs := [_, _, _, _, _, _, _, _, _, _, _]) (k := ?_); intro b2
  refine Seq.p rfl Ev.assign ?_
  refine Seq.p rfl Ev.assign ?_
  refine Seq.nil ?_
  refine JC.rs ?_
  refine Seq.p rfl (Ev.faB fd.api_Input_1) ?_
  refine Seq.p rfl (Ev.ldBPN [_, _, _, _, _, _, _, _, _] ag.api_Command) ?_
  refine Seq.alloc (cs := [_, _, _, _, _, _, _, _, _]) (hz := z.api_Command) (k := ?_); intro b6
  refine Seq.storeN [_, _, _, _, _, _, _, _, _] sz.api_Command (k := ?_)
  refine Seq.nil ?_
  refine JC.rs ?_
  refine Seq.p rfl Ev.assign ?_
  refine Seq.nil ?_
  refine JC.seq ?_
  refine JC.rs ?_
  refine Seq.p rfl Ev.move ?_
  refine Seq.nil ?_
  refine JC.blk ?_
  refine JC.rs ?_
  refine Seq.p rfl Ev.eq ?_
  refine Seq.p rfl Ev.assign ?_
  refine Seq.nil ?_
  first | refine JC.c (ht := fun c11 => ?_) (hf := fun c11 => ?_) | refine JC.cb (ht := fun c11 => ?_) (hf := fun c11 => ?_)
  · -- then_t11
    refine JC.rs ?_
    refine Seq.p rfl (Ev.faB fd.api_Command_1) ?_
    refine Seq.p rfl (Ev.ldB sc.uint64) ?_
    refine Seq.p rfl Ev.assign ?_
    refine Seq.p rfl Ev.assign ?_
    refine Seq.nil ?_
    refine JC.ret ?_
    -- return 0
    show retQ _ _ _ _ _ _ _ _
    refine ret2 (hp := Part.nil _) (hpost := ?_)
    simp [inValF, *]
  · -- else_t11
    refine JC.rs ?_
    refine Seq.p rfl Ev.eq ?_
    refine Seq.p rfl Ev.assign ?_
    refine Seq.nil ?_
    first | refine JC.c (ht := fun c15 => ?_) (hf := fun c15 => ?_) | refine JC.cb (ht := fun c15 => ?_) (hf := fun c15 => ?_)
    · -- then_t15
      refine JC.rs ?_
      refine Seq.p rfl (Ev.faB fd.api_Command_2) ?_
      refine Seq.p rfl (Ev.ldB sc.uint64) ?_
      refine Seq.p rfl Ev.assign ?_
      refine Seq.p rfl Ev.assign ?_
      refine Seq.nil ?_
      refine JC.ret ?_
      -- return 1
      show retQ _ _ _ _ _ _ _ _
      refine ret2 (hp := Part.nil _) (hpost := ?_)
      simp [inValF, *]
    · -- else_t15
      refine JC.rs ?_
      refine Seq.p rfl Ev.eq ?_
      refine Seq.p rfl Ev.assign ?_
      refine Seq.nil ?_
      first | refine JC.c (ht := fun c19 => ?_) (hf := fun c19 => ?_) | refine JC.cb (ht := fun c19 => ?_) (hf := fun c19 => ?_)
      · -- then_t19
        refine JC.rs ?_
        refine Seq.p rfl (Ev.faB fd.api_Command_3) ?_
        refine Seq.p rfl (Ev.ldB sc.uint32) ?_
        refine Seq.p rfl (Ev.convU64W it.uint32 it.uint64) ?_
        refine Seq.p rfl Ev.assign ?_
        refine Seq.p rfl Ev.assign ?_
        refine Seq.nil ?_
        refine JC.ret ?_
        -- return 2
        show retQ _ _ _ _ _ _ _ _
        refine ret2 (hp := Part.nil _) (hpost := ?_)
        simp [inValF, *]
      · -- else_t19
        refine JC.rs ?_
        refine Seq.p rfl Ev.eq ?_
        refine Seq.p rfl Ev.assign ?_
        refine Seq.nil ?_
        first | refine JC.c (ht := fun c24 => ?_) (hf := fun c24 => ?_) | refine JC.cb (ht := fun c24 => ?_) (hf := fun c24 => ?_)
        · -- then_t24
          refine JC.rs ?_
          refine Seq.p rfl (Ev.faB fd.api_Command_7) ?_
          refine Seq.p rfl (Ev.ldB sc.uint64) ?_
          refine Seq.p rfl Ev.assign ?_
          refine Seq.p rfl Ev.assign ?_
          refine Seq.nil ?_
          refine JC.ret ?_
          -- return 3
          show retQ _ _ _ _ _ _ _ _
          refine ret2 (hp := Part.nil _) (hpost := ?_)
          simp [inValF, *]
        · -- else_t24
          refine JC.rs ?_
          refine Seq.p rfl Ev.eq ?_
          refine Seq.p rfl Ev.assign ?_
          refine Seq.nil ?_
          first | refine JC.c (ht := fun c28 => ?_) (hf := fun c28 => ?_) | refine JC.cb (ht := fun c28 => ?_) (hf := fun c28 => ?_)
          · -- then_t28
            refine JC.rs ?_
            refine Seq.p rfl (Ev.faB fd.api_Command_8) ?_
            refine Seq.p rfl (Ev.ldB sc.uint64) ?_
            refine Seq.p rfl Ev.assign ?_
            refine Seq.p rfl Ev.assign ?_
            refine Seq.nil ?_
            refine JC.ret ?_
            -- return 4
            show retQ _ _ _ _ _ _ _ _
            refine ret2 (hp := Part.nil _) (hpost := ?_)
            simp [inValF, *]
          · -- else_t28
            refine JC.rs ?_
            refine Seq.p rfl Ev.eq ?_
            refine Seq.p rfl Ev.assign ?_
            refine Seq.nil ?_
            first | refine JC.c (ht := fun c32 => ?_) (hf := fun c32 => ?_) | refine JC.cb (ht := fun c32 => ?_) (hf := fun c32 => ?_)
            · -- then_t32
              refine JC.reg ?_
              refine Seq.p rfl (Ev.faB fd.api_Command_4) ?_
              refine Seq.p rfl (Ev.ldB sc.int) ?_
              refine Seq.p rfl Ev.assign ?_
              refine Seq.nil ?_
              refine JC.rs ?_
              refine Seq.p rfl Ev.move ?_
              refine Seq.p rfl (Ev.convU64W it.int it.uint64) ?_
              refine Seq.p rfl Ev.move ?_
              refine Seq.p rfl Ev.ge ?_
              refine Seq.p rfl Ev.assign ?_
              refine Seq.p rfl Ev.assign ?_
              refine Seq.nil ?_
              refine JC.ret ?_
              -- return 5
              show retQ _ _ _ _ _ _ _ _
              refine ret2 (hp := Part.nil _) (hpost := ?_)
              simp [inValF, *]
            · -- else_t32
              refine JC.rs ?_
              refine Seq.p rfl Ev.eq ?_
              refine Seq.p rfl Ev.assign ?_
              refine Seq.nil ?_
              first | refine JC.c (ht := fun c36 => ?_) (hf := fun c36 => ?_) | refine JC.cb (ht := fun c36 => ?_) (hf := fun c36 => ?_)
              · -- then_t36
                refine JC.reg ?_
                refine Seq.p rfl (Ev.faB fd.api_Command_5) ?_
                refine Seq.p rfl (Ev.ldB sc.int) ?_
                refine Seq.p rfl Ev.assign ?_
                refine Seq.nil ?_
                refine JC.rs ?_
                refine Seq.p rfl Ev.move ?_
                refine Seq.p rfl (Ev.convU64W it.int it.uint64) ?_
                refine Seq.p rfl Ev.move ?_
                refine Seq.p rfl Ev.ge ?_
                refine Seq.p rfl Ev.assign ?_
                refine Seq.p rfl Ev.assign ?_
                refine Seq.nil ?_
                refine JC.ret ?_
                -- return 6
                show retQ _ _ _ _ _ _ _ _
                refine ret2 (hp := Part.nil _) (hpost := ?_)
                simp [inValF, *]
              · -- else_t36
                refine JC.rs ?_
                refine Seq.p rfl Ev.eq ?_
                refine Seq.p rfl Ev.assign ?_
                refine Seq.nil ?_
                first | refine JC.c (ht := fun c40 => ?_) (hf := fun c40 => ?_) | refine JC.cb (ht := fun c40 => ?_) (hf := fun c40 => ?_)
                · -- then_t40
                  refine JC.reg ?_
                  refine Seq.p rfl (Ev.faB fd.api_Command_6) ?_
                  refine Seq.p rfl (Ev.ldB sc.int) ?_
                  refine Seq.p rfl Ev.assign ?_
                  refine Seq.nil ?_
                  refine JC.rs ?_
                  refine Seq.p rfl Ev.move ?_
                  refine Seq.p rfl (Ev.convU64W it.int it.uint64) ?_
                  refine Seq.p rfl Ev.move ?_
                  refine Seq.p rfl Ev.ge ?_
                  refine Seq.p rfl Ev.assign ?_
                  refine Seq.p rfl Ev.assign ?_
                  refine Seq.nil ?_
                  refine JC.ret ?_
                  -- return 7
                  show retQ _ _ _ _ _ _ _ _
                  refine ret2 (hp := Part.nil _) (hpost := ?_)
                  simp [inValF, *]
                · -- else_t40
                  refine JC.rs ?_
                  refine Seq.p rfl Ev.eq ?_
                  refine Seq.p rfl Ev.assign ?_
                  refine Seq.nil ?_
                  first | refine JC.c (ht := fun c44 => ?_) (hf := fun c44 => ?_) | refine JC.cb (ht := fun c44 => ?_) (hf := fun c44 => ?_)
                  · -- then_t44
                    refine JC.reg ?_
                    refine Seq.p rfl (Ev.faB fd.api_Input_2) ?_
                    refine Seq.p rfl (Ev.ldB sc.int) ?_
                    refine Seq.p rfl Ev.assign ?_
                    refine Seq.nil ?_
                    refine JC.rs ?_
                    refine Seq.p rfl Ev.move ?_
                    refine Seq.p rfl (Ev.convU64W it.int it.uint64) ?_
                    refine Seq.p rfl Ev.move ?_
                    refine Seq.p rfl Ev.ge ?_
                    refine Seq.p rfl Ev.assign ?_
                    refine Seq.p rfl Ev.assign ?_
                    refine Seq.nil ?_
                    refine JC.ret ?_
                    -- return 8
                    show retQ _ _ _ _ _ _ _ _
                    refine ret2 (hp := Part.nil _) (hpost := ?_)
                    simp [inValF, *]
                  · -- else_t44
                    refine JC.skip ?_
                    refine JC.rs ?_
                    refine Seq.p rfl Ev.move ?_
                    refine Seq.p rfl (Ev.convU64W it.int it.uint64) ?_
                    refine Seq.p rfl Ev.move ?_
                    refine Seq.p rfl Ev.ge ?_
                    refine Seq.p rfl Ev.assign ?_
                    refine Seq.p rfl Ev.assign ?_
                    refine Seq.nil ?_
                    refine JC.ret ?_
                    -- return 9
                    show retQ _ _ _ _ _ _ _ _
                    refine ret2 (hp := Part.nil _) (hpost := ?_)
                    simp [inValF, *]
set_option maxHeartbeats 2000000 in
theorem refWith {w : World} {i : Input} {t n : Int} : Spec Go.Proofs.Tryz.prog 28 #[.agg i.enc.toArray, .int .i64 t, .int .u64 n] w [] (fun u _ => u = .agg (withF i t n).enc.toArray) := by
  refine Spec.enter (fn := Go.Proofs.Tryz.f28) (n := 58) [.agg i.enc.toArray, .int .i64 t, .int .u64 n] Go.Proofs.Tryz.func28 (by kernel_rfl) rfl Go.Proofs.Tryz.ntmps28 Go.Proofs.Tryz.results28 rfl (Own.nil _) ?_
  refine JC.rs ?_
  refine Seq.box (cs := [_, _, _, _, _, _, _, _, _, _, _]) (k := ?_); intro b3
  refine Seq.alloc (cs := [_, _, _, _, _, _, _, _, _, _, _]) (hz := z.api_Input) (k := ?_); intro b6
  refine Seq.nil ?_
  refine JC.seq ?_
  refine JC.rs ?_
  refine Seq.p rfl Ev.move ?_
  refine Seq.nil ?_
  refine JC.blk ?_
  refine JC.rs ?_
  refine Seq.p rfl Ev.eq ?_
  refine Seq.p rfl Ev.assign ?_
  refine Seq.nil ?_
  first | refine JC.c (ht := fun c8 => ?_) (hf := fun c8 => ?_) | refine JC.cb (ht := fun c8 => ?_) (hf := fun c8 => ?_)
  · -- then_t8
    refine JC.reg ?_
    refine Seq.p rfl Ev.move ?_
    refine Seq.p rfl (Ev.faB fd.api_Input_1) ?_
    refine Seq.p rfl (Ev.faB fd.api_Command_1) ?_
    refine Seq.storeN [_, _, _, _, _, _, _, _, _, _, _] sz.uint64 (k := ?_)
    refine Seq.nil ?_
    refine JC.rs ?_
    refine Seq.p rfl (Ev.ldBA ag.api_Input) ?_
    refine Seq.storeN [_, _, _, _, _, _, _, _, _, _, _] sz.api_Input (k := ?_)
    refine Seq.nil ?_
    refine JC.ret ?_
    -- return 0
    show retQ _ _ _ _ _ _ _ _
    refine retB1 ag.api_Input (hp := Part.nil _) (hpost := ?_)
    unfold withF
    simp only [*, if_true, if_false]
    rfl
  · -- else_t8
    refine JC.rs ?_
    refine Seq.p rfl Ev.eq ?_
    refine Seq.p rfl Ev.assign ?_
    refine Seq.nil ?_
    first | refine JC.c (ht := fun c13 => ?_) (hf := fun c13 => ?_) | refine JC.cb (ht := fun c13 => ?_) (hf := fun c13 => ?_)
    · -- then_t13
      refine JC.reg ?_
      refine Seq.p rfl Ev.move ?_
      refine Seq.p rfl (Ev.faB fd.api_Input_1) ?_
      refine Seq.p rfl (Ev.faB fd.api_Command_2) ?_
      refine Seq.storeN [_, _, _, _, _, _, _, _, _, _, _] sz.uint64 (k := ?_)
      refine Seq.nil ?_
      refine JC.rs ?_
      refine Seq.p rfl (Ev.ldBA ag.api_Input) ?_
      refine Seq.storeN [_, _, _, _, _, _, _, _, _, _, _] sz.api_Input (k := ?_)
      refine Seq.nil ?_
      refine JC.ret ?_
      -- return 1
      show retQ _ _ _ _ _ _ _ _
      refine retB1 ag.api_Input (hp := Part.nil _) (hpost := ?_)
      unfold withF
      simp only [*, if_true, if_false]
      rfl
    · -- else_t13
      refine JC.rs ?_
      refine Seq.p rfl Ev.eq ?_
      refine Seq.p rfl Ev.assign ?_
      refine Seq.nil ?_
      first | refine JC.c (ht := fun c18 => ?_) (hf := fun c18 => ?_) | refine JC.cb (ht := fun c18 => ?_) (hf := fun c18 => ?_)
      · -- then_t18
        refine JC.reg ?_
        refine Seq.p rfl Ev.move ?_
        refine Seq.p rfl (Ev.convU32W it.uint64 it.uint32) ?_
        refine Seq.p rfl (Ev.faB fd.api_Input_1) ?_
        refine Seq.p rfl (Ev.faB fd.api_Command_3) ?_
        refine Seq.storeN [_, _, _, _, _, _, _, _, _, _, _] sz.uint32 (k := ?_)
        refine Seq.nil ?_
        refine JC.rs ?_
        refine Seq.p rfl (Ev.ldBA ag.api_Input) ?_
        refine Seq.storeN [_, _, _, _, _, _, _, _, _, _, _] sz.api_Input (k := ?_)
        refine Seq.nil ?_
        refine JC.ret ?_
        -- return 2
        show retQ _ _ _ _ _ _ _ _
        refine retB1 ag.api_Input (hp := Part.nil _) (hpost := ?_)
        unfold withF
        simp only [*, if_true, if_false]
        rfl
      · -- else_t18
        refine JC.rs ?_
        refine Seq.p rfl Ev.eq ?_
        refine Seq.p rfl Ev.assign ?_
        refine Seq.nil ?_
        first | refine JC.c (ht := fun c24 => ?_) (hf := fun c24 => ?_) | refine JC.cb (ht := fun c24 => ?_) (hf := fun c24 => ?_)
        · -- then_t24
          refine JC.reg ?_
          refine Seq.p rfl Ev.move ?_
          refine Seq.p rfl (Ev.faB fd.api_Input_1) ?_
          refine Seq.p rfl (Ev.faB fd.api_Command_7) ?_
          refine Seq.storeN [_, _, _, _, _, _, _, _, _, _, _] sz.uint64 (k := ?_)
          refine Seq.nil ?_
          refine JC.rs ?_
          refine Seq.p rfl (Ev.ldBA ag.api_Input) ?_
          refine Seq.storeN [_, _, _, _, _, _, _, _, _, _, _] sz.api_Input (k := ?_)
          refine Seq.nil ?_
          refine JC.ret ?_
          -- return 3
          show retQ _ _ _ _ _ _ _ _
          refine retB1 ag.api_Input (hp := Part.nil _) (hpost := ?_)
          unfold withF
          simp only [*, if_true, if_false]
          rfl
        · -- else_t24
          refine JC.rs ?_
          refine Seq.p rfl Ev.eq ?_
          refine Seq.p rfl Ev.assign ?_
          refine Seq.nil ?_
          first | refine JC.c (ht := fun c29 => ?_) (hf := fun c29 => ?_) | refine JC.cb (ht := fun c29 => ?_) (hf := fun c29 => ?_)
          · -- then_t29
            refine JC.reg ?_
            refine Seq.p rfl Ev.move ?_
            refine Seq.p rfl (Ev.faB fd.api_Input_1) ?_
            refine Seq.p rfl (Ev.faB fd.api_Command_8) ?_
            refine Seq.storeN [_, _, _, _, _, _, _, _, _, _, _] sz.uint64 (k := ?_)
            refine Seq.nil ?_
            refine JC.rs ?_
            refine Seq.p rfl (Ev.ldBA ag.api_Input) ?_
            refine Seq.storeN [_, _, _, _, _, _, _, _, _, _, _] sz.api_Input (k := ?_)
            refine Seq.nil ?_
            refine JC.ret ?_
            -- return 4
            show retQ _ _ _ _ _ _ _ _
            refine retB1 ag.api_Input (hp := Part.nil _) (hpost := ?_)
            unfold withF
            simp only [*, if_true, if_false]
            rfl
          · -- else_t29
            refine JC.rs ?_
            refine Seq.p rfl Ev.eq ?_
            refine Seq.p rfl Ev.assign ?_
            refine Seq.nil ?_
            first | refine JC.c (ht := fun c34 => ?_) (hf := fun c34 => ?_) | refine JC.cb (ht := fun c34 => ?_) (hf := fun c34 => ?_)
            · -- then_t34
              refine JC.reg ?_
              refine Seq.p rfl Ev.move ?_
              refine Seq.p rfl (Ev.convW it.uint64 it.int) ?_
              refine Seq.p rfl (Ev.faB fd.api_Input_1) ?_
              refine Seq.p rfl (Ev.faB fd.api_Command_4) ?_
              refine Seq.storeN [_, _, _, _, _, _, _, _, _, _, _] sz.int (k := ?_)
              refine Seq.nil ?_
              refine JC.rs ?_
              refine Seq.p rfl (Ev.ldBA ag.api_Input) ?_
              refine Seq.storeN [_, _, _, _, _, _, _, _, _, _, _] sz.api_Input (k := ?_)
              refine Seq.nil ?_
              refine JC.ret ?_
              -- return 5
              show retQ _ _ _ _ _ _ _ _
              refine retB1 ag.api_Input (hp := Part.nil _) (hpost := ?_)
              unfold withF
              simp only [*, if_true, if_false]
              rfl
            · -- else_t34
              refine JC.rs ?_
              refine Seq.p rfl Ev.eq ?_
              refine Seq.p rfl Ev.assign ?_
              refine Seq.nil ?_
              first | refine JC.c (ht := fun c40 => ?_) (hf := fun c40 => ?_) | refine JC.cb (ht := fun c40 => ?_) (hf := fun c40 => ?_)
              · -- then_t40
                refine JC.reg ?_
                refine Seq.p rfl Ev.move ?_
                refine Seq.p rfl (Ev.convW it.uint64 it.int) ?_
                refine Seq.p rfl (Ev.faB fd.api_Input_1) ?_
                refine Seq.p rfl (Ev.faB fd.api_Command_5) ?_
                refine Seq.storeN [_, _, _, _, _, _, _, _, _, _, _] sz.int (k := ?_)
                refine Seq.nil ?_
                refine JC.rs ?_
                refine Seq.p rfl (Ev.ldBA ag.api_Input) ?_
                refine Seq.storeN [_, _, _, _, _, _, _, _, _, _, _] sz.api_Input (k := ?_)
                refine Seq.nil ?_
                refine JC.ret ?_
                -- return 6
                show retQ _ _ _ _ _ _ _ _
                refine retB1 ag.api_Input (hp := Part.nil _) (hpost := ?_)
                unfold withF
                simp only [*, if_true, if_false]
                rfl
              · -- else_t40
                refine JC.rs ?_
                refine Seq.p rfl Ev.eq ?_
                refine Seq.p rfl Ev.assign ?_
                refine Seq.nil ?_
                first | refine JC.c (ht := fun c46 => ?_) (hf := fun c46 => ?_) | refine JC.cb (ht := fun c46 => ?_) (hf := fun c46 => ?_)
                · -- then_t46
                  refine JC.reg ?_
                  refine Seq.p rfl Ev.move ?_
                  refine Seq.p rfl (Ev.convW it.uint64 it.int) ?_
                  refine Seq.p rfl (Ev.faB fd.api_Input_1) ?_
                  refine Seq.p rfl (Ev.faB fd.api_Command_6) ?_
                  refine Seq.storeN [_, _, _, _, _, _, _, _, _, _, _] sz.int (k := ?_)
                  refine Seq.nil ?_
                  refine JC.rs ?_
                  refine Seq.p rfl (Ev.ldBA ag.api_Input) ?_
                  refine Seq.storeN [_, _, _, _, _, _, _, _, _, _, _] sz.api_Input (k := ?_)
                  refine Seq.nil ?_
                  refine JC.ret ?_
                  -- return 7
                  show retQ _ _ _ _ _ _ _ _
                  refine retB1 ag.api_Input (hp := Part.nil _) (hpost := ?_)
                  unfold withF
                  simp only [*, if_true, if_false]
                  rfl
                · -- else_t46
                  refine JC.rs ?_
                  refine Seq.p rfl Ev.eq ?_
                  refine Seq.p rfl Ev.assign ?_
                  refine Seq.nil ?_
                  first | refine JC.c (ht := fun c52 => ?_) (hf := fun c52 => ?_) | refine JC.cb (ht := fun c52 => ?_) (hf := fun c52 => ?_)
                  · -- then_t52
                    refine JC.reg ?_
                    refine Seq.p rfl Ev.move ?_
                    refine Seq.p rfl (Ev.convW it.uint64 it.int) ?_
                    refine Seq.p rfl (Ev.faB fd.api_Input_2) ?_
                    refine Seq.storeN [_, _, _, _, _, _, _, _, _, _, _] sz.int (k := ?_)
                    refine Seq.nil ?_
                    refine JC.rs ?_
                    refine Seq.p rfl (Ev.ldBA ag.api_Input) ?_
                    refine Seq.storeN [_, _, _, _, _, _, _, _, _, _, _] sz.api_Input (k := ?_)
                    refine Seq.nil ?_
                    refine JC.ret ?_
                    -- return 8
                    show retQ _ _ _ _ _ _ _ _
                    refine retB1 ag.api_Input (hp := Part.nil _) (hpost := ?_)
                    unfold withF
                    simp only [*, if_true, if_false]
                    rfl
                  · -- else_t52
                    refine JC.skip ?_
                    refine JC.rs ?_
                    refine Seq.p rfl (Ev.ldBA ag.api_Input) ?_
                    refine Seq.storeN [_, _, _, _, _, _, _, _, _, _, _] sz.api_Input (k := ?_)
                    refine Seq.nil ?_
                    refine JC.ret ?_
                    -- return 9
                    show retQ _ _ _ _ _ _ _ _
                    refine retB1 ag.api_Input (hp := Part.nil _) (hpost := ?_)
                    unfold withF
                    simp only [*, if_true, if_false]
                    rfl
theorem refBare {w : World} {k : Int} : Spec Go.Proofs.Tryz.prog 25 #[.int .i64 k] w [] (fun u _ => u = .agg (bareF k).enc.toArray) := by
  refine Spec.enter (fn := Go.Proofs.Tryz.f25) (n := 9) [.int .i64 k] Go.Proofs.Tryz.func25 (by kernel_rfl) rfl Go.Proofs.Tryz.ntmps25 Go.Proofs.Tryz.results25 rfl (Own.nil _) ?_
  refine JC.rs ?_
  refine Seq.alloc (cs := [_, _, _, _, _, _, _, _, _, _, _]) (hz := z.api_Input) (k := ?_); intro b2
  refine Seq.nil ?_
  refine JC.seq ?_
  refine JC.rs ?_
  refine Seq.p rfl Ev.move ?_
  refine Seq.p rfl Ev.eq ?_
  refine Seq.nil ?_
  first | refine JC.c (ht := fun c4 => ?_) (hf := fun c4 => ?_) | refine JC.cb (ht := fun c4 => ?_) (hf := fun c4 => ?_)
  · -- then_t4
    refine JC.rs ?_
    refine Seq.p rfl (Ev.buildN [_, _, _, _, _, _, _, _, _, _, _] pl.api_Input z.api_Input) ?_
    refine Seq.storeN [_, _, _, _, _, _, _, _, _, _, _] sz.api_Input (k := ?_)
    refine Seq.nil ?_
    refine JC.ret ?_
    -- return 0
    show retQ _ _ _ _ _ _ _ _
    refine retB1 ag.api_Input (hp := Part.nil _) (hpost := ?_)
    rw [bareF, if_pos c4]
    rfl
  · -- else_t4
    refine JC.skip ?_
    refine JC.rs ?_
    refine Seq.p rfl Ev.move ?_
    refine Seq.p rfl (Ev.buildN [_, _, _, _, _, _, _, _, _] pl.api_Command z.api_Command) ?_
    refine Seq.p rfl (Ev.buildN [_, _, _, _, _, _, _, _, _, _, _] pl.api_Input z.api_Input) ?_
    refine Seq.storeN [_, _, _, _, _, _, _, _, _, _, _] sz.api_Input (k := ?_)
    refine Seq.nil ?_
    refine JC.ret ?_
    -- return 1
    show retQ _ _ _ _ _ _ _ _
    refine retB1 ag.api_Input (hp := Part.nil _) (hpost := ?_)
    rw [bareF, if_neg c4]
    rfl
end Go.Rx
namespace Go.Rx
open Go Go.RowKit
set_option linter.unusedVariables false
set_option linter.unusedSimpArgs false
def fieldsF (i : Input) : Option (Int × ByteArray × List Fld) :=
  if i.kind = 2 then some (4, ⟨#[85, 69]⟩, [upToF 9001 i.engine 255])
  else if i.kind ≠ 1 then none
  else if i.ckind = 1 then some (1, ⟨#[68]⟩, [wholeF 11 i.id, wholeF 1 (i.member % 18446744073709551616), upToF 54 i.side 255, upToF 40 i.type 255, upToF 44 i.price 4294967295, wholeF 38 i.qty, wholeF 210 i.peak])
  else if i.ckind = 2 then some (2, ⟨#[70]⟩, [wholeF 41 i.target])
  else if i.ckind = 3 then some (3, ⟨#[71]⟩, [wholeF 41 i.target, wholeF 11 i.id, upToF 44 i.price 4294967295, wholeF 38 i.qty, wholeF 210 i.peak])
  else none
def FieldsPost (o : Option (Int × ByteArray × List Fld)) (u : Value) (N : List Chunk) : Prop :=
  match o with
  | none => u = .tuple #[.int .u8 0, .string ⟨#[]⟩, .slice none 0 0, .bool false]
  | some (k, s, fs) => ∃ b, u = .tuple #[.int .u8 k, .string s, .slice (some ⟨b, 0, none⟩) fs.length fs.length, .bool true] ∧ N = [.box b 119 (fs.flatMap Fld.enc)]
set_option maxHeartbeats 4000000 in
set_option maxRecDepth 100000 in
theorem msgFieldsOf {w : World} {i : Input} : Spec Go.Proofs.Tryz.prog 54 #[.agg i.enc.toArray] w [] (FieldsPost (fieldsF i)) := by
  refine Spec.enter (fn := Go.Proofs.Tryz.f54) (n := 76) [.agg i.enc.toArray] Go.Proofs.Tryz.func54 (by kernel_rfl) rfl Go.Proofs.Tryz.ntmps54 Go.Proofs.Tryz.results54 rfl (Own.nil _) ?_
  refine JC.rs ?_
  refine Seq.box (cs := [_, _, _, _, _, _, _, _, _, _, _]) (k := ?_); intro b1
  refine Seq.p rfl Ev.assign ?_
  refine Seq.p rfl Ev.assign ?_
  refine Seq.p rfl Ev.assign ?_
  refine Seq.p rfl Ev.assign ?_
  refine Seq.nil ?_
  refine JC.rs ?_
  refine Seq.p rfl (Ev.faB fd.api_Input_1) ?_
  refine Seq.p rfl (Ev.ldBPN [_, _, _, _, _, _, _, _, _] ag.api_Command) ?_
  refine Seq.alloc (cs := [_, _, _, _, _, _, _, _, _]) (hz := z.api_Command) (k := ?_); intro b6
  refine Seq.storeN [_, _, _, _, _, _, _, _, _] sz.api_Command (k := ?_)
  refine Seq.nil ?_
  refine JC.seq ?_
  refine JC.blk ?_
  refine JC.rs ?_
  refine Seq.p rfl (Ev.faB fd.api_Input_0) ?_
  refine Seq.p rfl (Ev.ldB sc.int) ?_
  refine Seq.p rfl Ev.eq ?_
  refine Seq.p rfl Ev.assign ?_
  refine Seq.nil ?_
  first | refine JC.c (ht := fun c9 => ?_) (hf := fun c9 => ?_) | refine JC.cb (ht := fun c9 => ?_) (hf := fun c9 => ?_)
  · -- then_t9
    refine JC.rs ?_
    refine Seq.p rfl (Ev.faB fd.api_Input_2) ?_
    refine Seq.p rfl (Ev.ldB sc.int) ?_
    refine Seq.callP rfl (fun w hw => msgUpTo) ?_
    refine Seq.buildSlN [_, _, _] (hsl := sl.sl_message_field) (hz := z.message_field) (k := ?_); intro b16
    refine Seq.p rfl Ev.assign ?_
    refine Seq.p rfl Ev.assign ?_
    refine Seq.p rfl Ev.assign ?_
    refine Seq.p rfl Ev.assign ?_
    refine Seq.nil ?_
    refine JC.ret ?_
    -- return 0
    show retQ _ _ _ _ _ _ _ _
    refine retI (RVs.t (hs := (RVs.t (hs := (RVs.t (hs := (RVs.t (hs := RVs.nil)))))))) (Part.here (Part.nil _)) ?_
    have hF : fieldsF i = some (4, ⟨#[85, 69]⟩, [upToF 9001 i.engine 255]) := by simp only [fieldsF, *, if_true, if_false]
    rw [hF]
    exact ⟨_, rfl, rfl⟩
  · -- else_t9
    refine JC.rs ?_
    refine Seq.p rfl (Ev.faB fd.api_Input_0) ?_
    refine Seq.p rfl (Ev.ldB sc.int) ?_
    refine Seq.p rfl Ev.ne ?_
    refine Seq.p rfl Ev.assign ?_
    refine Seq.nil ?_
    first | refine JC.c (ht := fun c17 => ?_) (hf := fun c17 => ?_) | refine JC.cb (ht := fun c17 => ?_) (hf := fun c17 => ?_)
    · -- then_t17
      refine JC.skip ?_
      refine JC.rs ?_
      refine Seq.p rfl Ev.assign ?_
      refine Seq.p rfl Ev.assign ?_
      refine Seq.p rfl Ev.assign ?_
      refine Seq.p rfl Ev.assign ?_
      refine Seq.nil ?_
      refine JC.ret ?_
      -- return 1
      show retQ _ _ _ _ _ _ _ _
      refine retI (RVs.t (hs := (RVs.t (hs := (RVs.t (hs := (RVs.t (hs := RVs.nil)))))))) (Part.nil _) ?_
      have hF : fieldsF i = none := by simp only [fieldsF, *, if_true, if_false, ne_eq, not_false_eq_true]
      rw [hF]
      rfl
    · -- else_t17
      refine JC.rs ?_
      refine Seq.p rfl (Ev.faB fd.api_Command_0) ?_
      refine Seq.p rfl (Ev.ldB sc.int) ?_
      refine Seq.p rfl Ev.eq ?_
      refine Seq.p rfl Ev.assign ?_
      refine Seq.nil ?_
      first | refine JC.c (ht := fun c21 => ?_) (hf := fun c21 => ?_) | refine JC.cb (ht := fun c21 => ?_) (hf := fun c21 => ?_)
      · -- then_t21
        refine JC.as mixed ?_
        refine Any.p 0 rfl (by kernel_rfl) (by kernel_rfl) (by kernel_rfl) rfl (Ev.faB fd.api_Command_1) ?_
        refine Any.p 1 rfl (by kernel_rfl) (by kernel_rfl) (by kernel_rfl) rfl (Ev.ldB sc.uint64) ?_
        refine Any.call 2 rfl (by kernel_rfl) (by kernel_rfl) (by kernel_rfl) rfl (fun w hw => msgWhole) ?_
        refine Any.p 3 rfl (by kernel_rfl) (by kernel_rfl) (by kernel_rfl) rfl (Ev.faB fd.api_Command_3) ?_
        refine Any.p 4 rfl (by kernel_rfl) (by kernel_rfl) (by kernel_rfl) rfl (Ev.ldB sc.uint32) ?_
        refine Any.p 5 rfl (by kernel_rfl) (by kernel_rfl) (by kernel_rfl) rfl (Ev.convU64W it.uint32 it.uint64) ?_
        refine Any.call 6 rfl (by kernel_rfl) (by kernel_rfl) (by kernel_rfl) rfl (fun w hw => msgWhole) ?_
        refine Any.p 7 rfl (by kernel_rfl) (by kernel_rfl) (by kernel_rfl) rfl (Ev.faB fd.api_Command_4) ?_
        refine Any.p 8 rfl (by kernel_rfl) (by kernel_rfl) (by kernel_rfl) rfl (Ev.ldB sc.int) ?_
        refine Any.call 9 rfl (by kernel_rfl) (by kernel_rfl) (by kernel_rfl) rfl (fun w hw => msgUpTo) ?_
        refine Any.p 10 rfl (by kernel_rfl) (by kernel_rfl) (by kernel_rfl) rfl (Ev.faB fd.api_Command_5) ?_
        refine Any.p 11 rfl (by kernel_rfl) (by kernel_rfl) (by kernel_rfl) rfl (Ev.ldB sc.int) ?_
        refine Any.call 12 rfl (by kernel_rfl) (by kernel_rfl) (by kernel_rfl) rfl (fun w hw => msgUpTo) ?_
        refine Any.p 13 rfl (by kernel_rfl) (by kernel_rfl) (by kernel_rfl) rfl (Ev.faB fd.api_Command_6) ?_
        refine Any.p 14 rfl (by kernel_rfl) (by kernel_rfl) (by kernel_rfl) rfl (Ev.ldB sc.int) ?_
        refine Any.call 15 rfl (by kernel_rfl) (by kernel_rfl) (by kernel_rfl) rfl (fun w hw => msgUpTo) ?_
        refine Any.p 16 rfl (by kernel_rfl) (by kernel_rfl) (by kernel_rfl) rfl (Ev.faB fd.api_Command_7) ?_
        refine Any.p 17 rfl (by kernel_rfl) (by kernel_rfl) (by kernel_rfl) rfl (Ev.ldB sc.uint64) ?_
        refine Any.call 18 rfl (by kernel_rfl) (by kernel_rfl) (by kernel_rfl) rfl (fun w hw => msgWhole) ?_
        refine Any.p 19 rfl (by kernel_rfl) (by kernel_rfl) (by kernel_rfl) rfl (Ev.faB fd.api_Command_8) ?_
        refine Any.p 20 rfl (by kernel_rfl) (by kernel_rfl) (by kernel_rfl) rfl (Ev.ldB sc.uint64) ?_
        refine Any.call 21 rfl (by kernel_rfl) (by kernel_rfl) (by kernel_rfl) rfl (fun w hw => msgWhole) ?_
        refine Any.p 23 rfl (by kernel_rfl) (by kernel_rfl) (by kernel_rfl) rfl Ev.assign ?_
        refine Any.p 24 rfl (by kernel_rfl) (by kernel_rfl) (by kernel_rfl) rfl Ev.assign ?_
        refine Any.one 22 rfl (by kernel_rfl) ?_
        refine Seq.buildSlS [_, _, _, _, _, _, _, _, _, _, _, _, _, _, _, _, _, _, _, _, _] (hsl := sl.sl_message_field) (hz := z.message_field) (k := ?_); intro b47
        refine Seq.nil ⟨(by repeat (first | exact Part.refl _ | exact Part.nil _ | apply Part.here | apply Part.skip)), ?_⟩
        refine Any.p 25 rfl (by kernel_rfl) (by kernel_rfl) (by kernel_rfl) rfl Ev.assign ?_
        refine Any.p 26 rfl (by kernel_rfl) (by kernel_rfl) (by kernel_rfl) rfl Ev.assign ?_
        refine Any.done (by kernel_rfl) ?_
        refine JC.ret ?_
        -- return 2
        show retQ _ _ _ _ _ _ _ _
        refine retI (RVs.t (hs := (RVs.t (hs := (RVs.t (hs := (RVs.t (hs := RVs.nil)))))))) (Part.here (Part.nil _)) ?_
        have hF : fieldsF i = some (1, ⟨#[68]⟩, [wholeF 11 i.id, wholeF 1 (i.member % 18446744073709551616), upToF 54 i.side 255, upToF 40 i.type 255, upToF 44 i.price 4294967295, wholeF 38 i.qty, wholeF 210 i.peak]) := by rw [fieldsF, if_neg c9, if_neg c17, if_pos c21]
        rw [hF]
        exact ⟨_, rfl, rfl⟩
      · -- else_t21
        refine JC.rs ?_
        refine Seq.p rfl (Ev.faB fd.api_Command_0) ?_
        refine Seq.p rfl (Ev.ldB sc.int) ?_
        refine Seq.p rfl Ev.eq ?_
        refine Seq.p rfl Ev.assign ?_
        refine Seq.nil ?_
        first | refine JC.c (ht := fun c48 => ?_) (hf := fun c48 => ?_) | refine JC.cb (ht := fun c48 => ?_) (hf := fun c48 => ?_)
        · -- then_t48
          refine JC.rs ?_
          refine Seq.p rfl (Ev.faB fd.api_Command_2) ?_
          refine Seq.p rfl (Ev.ldB sc.uint64) ?_
          refine Seq.callP rfl (fun w hw => msgWhole) ?_
          refine Seq.buildSlN [_, _, _] (hsl := sl.sl_message_field) (hz := z.message_field) (k := ?_); intro b55
          refine Seq.p rfl Ev.assign ?_
          refine Seq.p rfl Ev.assign ?_
          refine Seq.p rfl Ev.assign ?_
          refine Seq.p rfl Ev.assign ?_
          refine Seq.nil ?_
          refine JC.ret ?_
          -- return 3
          show retQ _ _ _ _ _ _ _ _
          refine retI (RVs.t (hs := (RVs.t (hs := (RVs.t (hs := (RVs.t (hs := RVs.nil)))))))) (Part.here (Part.nil _)) ?_
          have hF : fieldsF i = some (2, ⟨#[70]⟩, [wholeF 41 i.target]) := by rw [fieldsF, if_neg c9, if_neg c17, if_neg c21, if_pos c48]
          rw [hF]
          exact ⟨_, rfl, rfl⟩
        · -- else_t48
          refine JC.rs ?_
          refine Seq.p rfl (Ev.faB fd.api_Command_0) ?_
          refine Seq.p rfl (Ev.ldB sc.int) ?_
          refine Seq.p rfl Ev.eq ?_
          refine Seq.p rfl Ev.assign ?_
          refine Seq.nil ?_
          first | refine JC.c (ht := fun c56 => ?_) (hf := fun c56 => ?_) | refine JC.cb (ht := fun c56 => ?_) (hf := fun c56 => ?_)
          · -- then_t56
            refine JC.as mixed ?_
            refine Any.p 0 rfl (by kernel_rfl) (by kernel_rfl) (by kernel_rfl) rfl (Ev.faB fd.api_Command_2) ?_
            refine Any.p 1 rfl (by kernel_rfl) (by kernel_rfl) (by kernel_rfl) rfl (Ev.ldB sc.uint64) ?_
            refine Any.call 2 rfl (by kernel_rfl) (by kernel_rfl) (by kernel_rfl) rfl (fun w hw => msgWhole) ?_
            refine Any.p 3 rfl (by kernel_rfl) (by kernel_rfl) (by kernel_rfl) rfl (Ev.faB fd.api_Command_1) ?_
            refine Any.p 4 rfl (by kernel_rfl) (by kernel_rfl) (by kernel_rfl) rfl (Ev.ldB sc.uint64) ?_
            refine Any.call 5 rfl (by kernel_rfl) (by kernel_rfl) (by kernel_rfl) rfl (fun w hw => msgWhole) ?_
            refine Any.p 6 rfl (by kernel_rfl) (by kernel_rfl) (by kernel_rfl) rfl (Ev.faB fd.api_Command_6) ?_
            refine Any.p 7 rfl (by kernel_rfl) (by kernel_rfl) (by kernel_rfl) rfl (Ev.ldB sc.int) ?_
            refine Any.call 8 rfl (by kernel_rfl) (by kernel_rfl) (by kernel_rfl) rfl (fun w hw => msgUpTo) ?_
            refine Any.p 9 rfl (by kernel_rfl) (by kernel_rfl) (by kernel_rfl) rfl (Ev.faB fd.api_Command_7) ?_
            refine Any.p 10 rfl (by kernel_rfl) (by kernel_rfl) (by kernel_rfl) rfl (Ev.ldB sc.uint64) ?_
            refine Any.call 11 rfl (by kernel_rfl) (by kernel_rfl) (by kernel_rfl) rfl (fun w hw => msgWhole) ?_
            refine Any.p 12 rfl (by kernel_rfl) (by kernel_rfl) (by kernel_rfl) rfl (Ev.faB fd.api_Command_8) ?_
            refine Any.p 13 rfl (by kernel_rfl) (by kernel_rfl) (by kernel_rfl) rfl (Ev.ldB sc.uint64) ?_
            refine Any.call 14 rfl (by kernel_rfl) (by kernel_rfl) (by kernel_rfl) rfl (fun w hw => msgWhole) ?_
            refine Any.p 16 rfl (by kernel_rfl) (by kernel_rfl) (by kernel_rfl) rfl Ev.assign ?_
            refine Any.p 17 rfl (by kernel_rfl) (by kernel_rfl) (by kernel_rfl) rfl Ev.assign ?_
            refine Any.one 15 rfl (by kernel_rfl) ?_
            refine Seq.buildSlS [_, _, _, _, _, _, _, _, _, _, _, _, _, _, _] (hsl := sl.sl_message_field) (hz := z.message_field) (k := ?_); intro b75
            refine Seq.nil ⟨(by repeat (first | exact Part.refl _ | exact Part.nil _ | apply Part.here | apply Part.skip)), ?_⟩
            refine Any.p 18 rfl (by kernel_rfl) (by kernel_rfl) (by kernel_rfl) rfl Ev.assign ?_
            refine Any.p 19 rfl (by kernel_rfl) (by kernel_rfl) (by kernel_rfl) rfl Ev.assign ?_
            refine Any.done (by kernel_rfl) ?_
            refine JC.ret ?_
            -- return 4
            show retQ _ _ _ _ _ _ _ _
            refine retI (RVs.t (hs := (RVs.t (hs := (RVs.t (hs := (RVs.t (hs := RVs.nil)))))))) (Part.here (Part.nil _)) ?_
            have hF : fieldsF i = some (3, ⟨#[71]⟩, [wholeF 41 i.target, wholeF 11 i.id, upToF 44 i.price 4294967295, wholeF 38 i.qty, wholeF 210 i.peak]) := by rw [fieldsF, if_neg c9, if_neg c17, if_neg c21, if_neg c48, if_pos c56]
            rw [hF]
            exact ⟨_, rfl, rfl⟩
          · -- else_t56
            refine JC.skip ?_
            refine JC.rs ?_
            refine Seq.p rfl Ev.assign ?_
            refine Seq.p rfl Ev.assign ?_
            refine Seq.p rfl Ev.assign ?_
            refine Seq.p rfl Ev.assign ?_
            refine Seq.nil ?_
            refine JC.ret ?_
            -- return 5
            show retQ _ _ _ _ _ _ _ _
            refine retI (RVs.t (hs := (RVs.t (hs := (RVs.t (hs := (RVs.t (hs := RVs.nil)))))))) (Part.nil _) ?_
            have hF : fieldsF i = none := by rw [fieldsF, if_neg c9, if_neg c17, if_neg c21, if_neg c48, if_neg c56]
            rw [hF]
            rfl
end Go.Rx
