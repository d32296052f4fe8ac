/- Parts of the proof. -/
import Derived.Test.YthpejgmkiomfhaaGreatDoorProg
import Derived.Test.YthpejgmkiomfhaaGreatDoorRxL2
import Derived.KernelRfl
import Derived.Shelf.Strconv.Atoi
import Derived.Shelf.Strconv.Itoa0
import Derived.Shelf.Strconv.Itoa1
import Derived.Shelf.LaysM
import Derived.Shelf.Strconv.Itoa2
import Derived.Shelf.Strconv.Itoa3
import Derived.Shelf.Strconv.AtoiErrFast
import Derived.Shelf.Strconv.ParseIntEmpty
import Derived.Shelf.Strconv.AtoiFail
import Derived.Shelf.Strconv.Clone
import Derived.Shelf.Strconv.SyntaxError
import Derived.Shelf.LaysC
import Derived.Shelf.Strconv.ToError
import Derived.Shelf.Strconv.Lower
import Derived.Shelf.Strconv.ParseUint10
import Derived.Shelf.Strconv.ParseUint10Empty
import Derived.Shelf.Strconv.ParseUint10Any
import Derived.Shelf.Strconv.ParseInt10
import Derived.Shelf.Strconv.AtoiLong
import Derived.Shelf.Strconv.AtoiInnerAll
import Derived.Shelf.Strconv.RangeError
import Derived.Shelf.Strconv.ToErrorRange
import Derived.Shelf.Strconv.AtoiAll
import Derived.Shelf.Strconv.ErrVarAll
import Derived.Shelf.Strconv.ParseUintEmpty
import Derived.Shelf.Strconv.ParseUint10b64
import Derived.Shelf.Strconv.ParseUint10b32
import Derived.Shelf.Strconv.ParseUint10b16
import Derived.Shelf.Strconv.ParseUint10b8
import Derived.Ground.MpProg
import Derived.Shelf.Pu.ParseUintPublic10
import Derived.Shelf.Pu.ErrVarParseUint
import Derived.Shelf.Strings.Search1
import Derived.Shelf.Strings.Search2
import Derived.Shelf.Strings.Cut
import Derived.Shelf.Strings.Shaped
import Derived.Shelf.GgClosure.StringsIndexFunc
import Derived.Ground.GgwProg
import Derived.Shelf.GgClosure.StringsIndexFuncTop
import Derived.Shelf.Strings.FuncGrows
import Derived.Shelf.Slices.Turned
import Derived.Shelf.Bytes.SlIndexAt
import Derived.Shelf.Bytes.SlSearch0
import Derived.Shelf.Bytes.IndexByte
import Derived.Lib.Walk
import Derived.Lib.ItoaMem
import Derived.WalkKit
import Derived.BigCall
import Derived.BigGuard
import Derived.Lib.ParseIntBCases
import Derived.Lib.ItoaNum
import Derived.Lib.AtoiErrMem
import Derived.Shelf.Lay
import Derived.Test.YthpejgmkiomfhaaGreatDoorRows
import Derived.Stop.LaidErr
import Derived.LaidLaws
import Derived.LaidHandle
import Derived.ChangeMaps5
import Derived.SizedLaws
import Derived.Below
import Derived.ChangeOld
import Derived.ShutString
set_option linter.unusedVariables false
set_option linter.unusedSimpArgs false
/- Facts of the types of the program. -/
namespace Go.Rx
open Go
theorem mixed : Go.Proofs.Tryz.prog.follows .mixedOrders = true := by kernel_rfl
theorem sl.sl_api_Tag : slcOf Go.Proofs.Tryz.prog 55 74 2 = true := by kernel_rfl
theorem ag.api_Tag : isAg Go.Proofs.Tryz.prog 74 2 = true := by kernel_rfl
theorem z.api_Tag : zeroOf Go.Proofs.Tryz.prog 74 = some (.agg #[.int .i64 0, .string ⟨#[]⟩]) := by kernel_rfl
theorem sz.api_Tag : szOf Go.Proofs.Tryz.prog 74 2 = true := by kernel_rfl
theorem fd.api_Tag_0 : fldOf Go.Proofs.Tryz.prog 74 0 0 3 1 = true := by kernel_rfl
theorem sc.int : isSc Go.Proofs.Tryz.prog 3 = true := by kernel_rfl
theorem fd.api_Tag_1 : fldOf Go.Proofs.Tryz.prog 74 1 1 9 1 = true := by kernel_rfl
theorem sc.string : isSc Go.Proofs.Tryz.prog 9 = true := by kernel_rfl
theorem st.string : isStr Go.Proofs.Tryz.prog 9 = true := by kernel_rfl
theorem it.uint8 : intOfT Go.Proofs.Tryz.prog 5 .u8 = true := by kernel_rfl
theorem it.uint64 : intOfT Go.Proofs.Tryz.prog 24 .u64 = true := by kernel_rfl
theorem so.api_Tag : sorts Go.Proofs.Tryz.prog 20 74 = some [.int .i64, .str] := by kernel_rfl
theorem byt.api_Tag : Go.Proofs.Tryz.prog.bytesOf 74 = 24 := by kernel_rfl
theorem sl.sl_uint8 : slcOf Go.Proofs.Tryz.prog 22 5 1 = true := by kernel_rfl
theorem sc.uint8 : isSc Go.Proofs.Tryz.prog 5 = true := by kernel_rfl
theorem it.int : intOfT Go.Proofs.Tryz.prog 3 .i64 = true := by kernel_rfl
theorem so.uint8 : sorts Go.Proofs.Tryz.prog 20 5 = some [.int .u8] := by kernel_rfl
theorem byt.uint8 : Go.Proofs.Tryz.prog.bytesOf 5 = 1 := by kernel_rfl
theorem z.message_field : zeroOf Go.Proofs.Tryz.prog 119 = some (.agg #[.int .i64 0, .int .u64 0, .bool false]) := by kernel_rfl
theorem pl.message_field : fieldPlaces Go.Proofs.Tryz.prog 119 = some [(0, 1), (1, 1), (2, 1)] := by kernel_rfl
theorem sz.message_field : szOf Go.Proofs.Tryz.prog 119 3 = true := by kernel_rfl
theorem ag.message_field : isAg Go.Proofs.Tryz.prog 119 3 = true := by kernel_rfl
theorem z.api_Input : zeroOf Go.Proofs.Tryz.prog 29 = some (.agg #[.int .i64 0, .int .i64 0, .int .u64 0, .int .u64 0, .int .u32 0, .int .i64 0, .int .i64 0, .int .i64 0, .int .u64 0, .int .u64 0, .int .i64 0]) := by kernel_rfl
theorem mp.m_int_uint64 : mapOf Go.Proofs.Tryz.prog 61 3 24 (.int .i64) := ⟨Go.Proofs.Tryz.underlying61, Go.Proofs.Tryz.underlying3⟩
theorem z.uint64 : zeroOf Go.Proofs.Tryz.prog 24 = some (.int .u64 0) := by kernel_rfl
theorem pl.api_Input : fieldPlaces Go.Proofs.Tryz.prog 29 = some [(0, 1), (1, 9), (10, 1)] := by kernel_rfl
theorem sz.api_Input : szOf Go.Proofs.Tryz.prog 29 11 = true := by kernel_rfl
theorem ag.api_Input : isAg Go.Proofs.Tryz.prog 29 11 = true := by kernel_rfl
theorem it.uint32 : intOfT Go.Proofs.Tryz.prog 25 .u32 = true := by kernel_rfl
theorem pl.api_Command : fieldPlaces Go.Proofs.Tryz.prog 27 = some [(0, 1), (1, 1), (2, 1), (3, 1), (4, 1), (5, 1), (6, 1), (7, 1), (8, 1)] := by kernel_rfl
theorem z.api_Command : zeroOf Go.Proofs.Tryz.prog 27 = some (.agg #[.int .i64 0, .int .u64 0, .int .u64 0, .int .u32 0, .int .i64 0, .int .i64 0, .int .i64 0, .int .u64 0, .int .u64 0]) := by kernel_rfl
theorem fd.api_Input_0 : fldOf Go.Proofs.Tryz.prog 29 0 0 3 1 = true := by kernel_rfl
theorem fd.api_Input_1 : fldOf Go.Proofs.Tryz.prog 29 1 1 27 9 = true := by kernel_rfl
theorem fd.api_Command_0 : fldOf Go.Proofs.Tryz.prog 27 0 0 3 1 = true := by kernel_rfl
theorem ag.api_Command : isAg Go.Proofs.Tryz.prog 27 9 = true := by kernel_rfl
theorem sz.api_Command : szOf Go.Proofs.Tryz.prog 27 9 = true := by kernel_rfl
theorem fd.api_Command_1 : fldOf Go.Proofs.Tryz.prog 27 1 1 24 1 = true := by kernel_rfl
theorem sc.uint64 : isSc Go.Proofs.Tryz.prog 24 = true := by kernel_rfl
theorem fd.api_Command_2 : fldOf Go.Proofs.Tryz.prog 27 2 2 24 1 = true := by kernel_rfl
theorem fd.api_Command_3 : fldOf Go.Proofs.Tryz.prog 27 3 3 25 1 = true := by kernel_rfl
theorem sc.uint32 : isSc Go.Proofs.Tryz.prog 25 = true := by kernel_rfl
theorem fd.api_Command_7 : fldOf Go.Proofs.Tryz.prog 27 7 7 24 1 = true := by kernel_rfl
theorem fd.api_Command_8 : fldOf Go.Proofs.Tryz.prog 27 8 8 24 1 = true := by kernel_rfl
theorem fd.api_Command_4 : fldOf Go.Proofs.Tryz.prog 27 4 4 3 1 = true := by kernel_rfl
theorem fd.api_Command_5 : fldOf Go.Proofs.Tryz.prog 27 5 5 3 1 = true := by kernel_rfl
theorem fd.api_Command_6 : fldOf Go.Proofs.Tryz.prog 27 6 6 3 1 = true := by kernel_rfl
theorem fd.api_Input_2 : fldOf Go.Proofs.Tryz.prog 29 2 10 3 1 = true := by kernel_rfl
theorem sz.uint64 : szOf Go.Proofs.Tryz.prog 24 1 = true := by kernel_rfl
theorem sz.uint32 : szOf Go.Proofs.Tryz.prog 25 1 = true := by kernel_rfl
theorem sz.int : szOf Go.Proofs.Tryz.prog 3 1 = true := by kernel_rfl
theorem sl.sl_message_field : slcOf Go.Proofs.Tryz.prog 79 119 3 = true := by kernel_rfl
theorem fd.message_field_2 : fldOf Go.Proofs.Tryz.prog 119 2 2 4 1 = true := by kernel_rfl
theorem sc.bool : isSc Go.Proofs.Tryz.prog 4 = true := by kernel_rfl
theorem fd.message_field_0 : fldOf Go.Proofs.Tryz.prog 119 0 0 3 1 = true := by kernel_rfl
theorem fd.message_field_1 : fldOf Go.Proofs.Tryz.prog 119 1 1 24 1 = true := by kernel_rfl
theorem so.api_Input : sorts Go.Proofs.Tryz.prog 20 29 = some [.int .i64, .int .i64, .int .u64, .int .u64, .int .u32, .int .i64, .int .i64, .int .i64, .int .u64, .int .u64, .int .i64] := by kernel_rfl
theorem gd.api_Input : Go.Proofs.Tryz.prog.eqGuardType Go.Proofs.Tryz.prog.depth 29 = false := by kernel_rfl
theorem z.api_Frame : zeroOf Go.Proofs.Tryz.prog 42 = some (.agg #[.int .u8 0, .int .u64 0, .int .u64 0, .int .u64 0, .int .u64 0, .int .u64 0, .int .u64 0, .int .u64 0]) := by kernel_rfl
theorem pl.api_Frame : fieldPlaces Go.Proofs.Tryz.prog 42 = some [(0, 1), (1, 7)] := by kernel_rfl
theorem sz.api_Frame : szOf Go.Proofs.Tryz.prog 42 8 = true := by kernel_rfl
theorem ag.api_Frame : isAg Go.Proofs.Tryz.prog 42 8 = true := by kernel_rfl
theorem ar.a7_uint64 : arrOf Go.Proofs.Tryz.prog 40 7 24 1 = true := by kernel_rfl
theorem z.a7_uint64 : zeroOf Go.Proofs.Tryz.prog 40 = some (.agg #[.int .u64 0, .int .u64 0, .int .u64 0, .int .u64 0, .int .u64 0, .int .u64 0, .int .u64 0]) := by kernel_rfl
theorem el.uint64 : elOf Go.Proofs.Tryz.prog 24 1 8 = true := by kernel_rfl
theorem z.api_Event : zeroOf Go.Proofs.Tryz.prog 34 = some (.agg #[.int .u64 0, .int .i64 0, .int .u64 0, .int .u64 0, .int .u64 0, .int .u32 0, .int .i64 0, .int .i64 0, .int .i64 0, .int .u64 0, .int .u64 0, .int .i64 0, .int .i64 0]) := by kernel_rfl
theorem it.api_Errno : intOfT Go.Proofs.Tryz.prog 30 .i64 = true := by kernel_rfl
theorem pl.api_Event : fieldPlaces Go.Proofs.Tryz.prog 34 = some [(0, 1), (1, 1), (2, 1), (3, 1), (4, 1), (5, 1), (6, 1), (7, 1), (8, 1), (9, 1), (10, 1), (11, 1), (12, 1)] := by kernel_rfl
theorem sz.api_Event : szOf Go.Proofs.Tryz.prog 34 13 = true := by kernel_rfl
theorem ag.api_Event : isAg Go.Proofs.Tryz.prog 34 13 = true := by kernel_rfl
theorem fd.api_Event_0 : fldOf Go.Proofs.Tryz.prog 34 0 0 24 1 = true := by kernel_rfl
theorem fd.api_Event_2 : fldOf Go.Proofs.Tryz.prog 34 2 2 24 1 = true := by kernel_rfl
theorem fd.api_Event_4 : fldOf Go.Proofs.Tryz.prog 34 4 4 24 1 = true := by kernel_rfl
theorem fd.api_Event_3 : fldOf Go.Proofs.Tryz.prog 34 3 3 24 1 = true := by kernel_rfl
theorem fd.api_Event_5 : fldOf Go.Proofs.Tryz.prog 34 5 5 25 1 = true := by kernel_rfl
theorem fd.api_Event_9 : fldOf Go.Proofs.Tryz.prog 34 9 9 24 1 = true := by kernel_rfl
theorem fd.api_Event_10 : fldOf Go.Proofs.Tryz.prog 34 10 10 24 1 = true := by kernel_rfl
theorem fd.api_Event_6 : fldOf Go.Proofs.Tryz.prog 34 6 6 3 1 = true := by kernel_rfl
theorem fd.api_Event_7 : fldOf Go.Proofs.Tryz.prog 34 7 7 3 1 = true := by kernel_rfl
theorem fd.api_Event_8 : fldOf Go.Proofs.Tryz.prog 34 8 8 3 1 = true := by kernel_rfl
theorem fd.api_Event_11 : fldOf Go.Proofs.Tryz.prog 34 11 11 3 1 = true := by kernel_rfl
theorem fd.api_Event_12 : fldOf Go.Proofs.Tryz.prog 34 12 12 30 1 = true := by kernel_rfl
theorem sc.api_Errno : isSc Go.Proofs.Tryz.prog 30 = true := by kernel_rfl
theorem sz.api_Errno : szOf Go.Proofs.Tryz.prog 30 1 = true := by kernel_rfl
theorem fd.api_Event_1 : fldOf Go.Proofs.Tryz.prog 34 1 1 3 1 = true := by kernel_rfl
theorem el.message_field : elOf Go.Proofs.Tryz.prog 119 3 24 = true := by kernel_rfl
theorem so.api_Event : sorts Go.Proofs.Tryz.prog 20 34 = some [.int .u64, .int .i64, .int .u64, .int .u64, .int .u64, .int .u32, .int .i64, .int .i64, .int .i64, .int .u64, .int .u64, .int .i64, .int .i64] := by kernel_rfl
theorem gd.api_Event : Go.Proofs.Tryz.prog.eqGuardType Go.Proofs.Tryz.prog.depth 34 = false := by kernel_rfl
theorem fd.api_Frame_0 : fldOf Go.Proofs.Tryz.prog 42 0 0 5 1 = true := by kernel_rfl
theorem fd.api_Frame_1 : fldOf Go.Proofs.Tryz.prog 42 1 1 40 7 = true := by kernel_rfl
theorem ag.a7_uint64 : isAg Go.Proofs.Tryz.prog 40 7 = true := by kernel_rfl
theorem sz.a7_uint64 : szOf Go.Proofs.Tryz.prog 40 7 = true := by kernel_rfl
theorem so.api_Frame : sorts Go.Proofs.Tryz.prog 20 42 = some [.int .u8, .int .u64, .int .u64, .int .u64, .int .u64, .int .u64, .int .u64, .int .u64] := by kernel_rfl
theorem gd.api_Frame : Go.Proofs.Tryz.prog.eqGuardType Go.Proofs.Tryz.prog.depth 42 = false := by kernel_rfl
theorem z.uint8 : zeroOf Go.Proofs.Tryz.prog 5 = some (.int .u8 0) := by kernel_rfl
theorem z.text_line : zeroOf Go.Proofs.Tryz.prog 93 = some (.agg #[.string ⟨#[]⟩, .slice none 0 0, .int .i64 0, .int .i64 0]) := by kernel_rfl
theorem pl.text_line : fieldPlaces Go.Proofs.Tryz.prog 93 = some [(0, 1), (1, 1), (2, 1), (3, 1)] := by kernel_rfl
theorem sz.text_line : szOf Go.Proofs.Tryz.prog 93 4 = true := by kernel_rfl
theorem ag.text_line : isAg Go.Proofs.Tryz.prog 93 4 = true := by kernel_rfl
theorem fd.text_line_2 : fldOf Go.Proofs.Tryz.prog 93 2 2 3 1 = true := by kernel_rfl
theorem fd.text_line_0 : fldOf Go.Proofs.Tryz.prog 93 0 0 9 1 = true := by kernel_rfl
theorem sz.string : szOf Go.Proofs.Tryz.prog 9 1 = true := by kernel_rfl
theorem pl.api_Tag : fieldPlaces Go.Proofs.Tryz.prog 74 = some [(0, 1), (1, 1)] := by kernel_rfl
theorem fd.text_line_1 : fldOf Go.Proofs.Tryz.prog 93 1 1 55 1 = true := by kernel_rfl
theorem sc.sl_api_Tag : isSc Go.Proofs.Tryz.prog 55 = true := by kernel_rfl
theorem el.api_Tag : elOf Go.Proofs.Tryz.prog 74 2 24 = true := by kernel_rfl
theorem sz.sl_api_Tag : szOf Go.Proofs.Tryz.prog 55 1 = true := by kernel_rfl
theorem sz.bool : szOf Go.Proofs.Tryz.prog 4 1 = true := by kernel_rfl
theorem fd.text_line_3 : fldOf Go.Proofs.Tryz.prog 93 3 3 3 1 = true := by kernel_rfl
theorem el.uint8 : elOf Go.Proofs.Tryz.prog 5 1 1 = true := by kernel_rfl
theorem sl.sl_sl_uint8 : slcOf Go.Proofs.Tryz.prog 147 22 1 = true := by kernel_rfl
theorem sc.sl_uint8 : isSc Go.Proofs.Tryz.prog 22 = true := by kernel_rfl
theorem z.sl_uint8 : zeroOf Go.Proofs.Tryz.prog 22 = some (.slice none 0 0) := by kernel_rfl
theorem gd.api_Tag : Go.Proofs.Tryz.prog.eqGuardType Go.Proofs.Tryz.prog.depth 74 = false := by kernel_rfl
theorem so.a7_uint64 : sorts Go.Proofs.Tryz.prog 20 40 = some [.int .u64, .int .u64, .int .u64, .int .u64, .int .u64, .int .u64, .int .u64] := by kernel_rfl
theorem gd.a7_uint64 : Go.Proofs.Tryz.prog.eqGuardType Go.Proofs.Tryz.prog.depth 40 = false := by kernel_rfl
theorem sl.sl_string : slcOf Go.Proofs.Tryz.prog 59 9 1 = true := by kernel_rfl
theorem z.string : zeroOf Go.Proofs.Tryz.prog 9 = some (.string ⟨#[]⟩) := by kernel_rfl
end Go.Rx
/- The shelf's contracts at this program (written by the kit's tools lay-shelf and lay-plain; picked by shelf2.py). -/
namespace Go.Proofs
open Go.Shelf
def Tryz.lays129_ren : Go.Shelf.Ren := ⟨fun | 129 => 121 | n => n, fun | 53 => 24 | 3 => 3 | 4 => 4 | 46 => 82 | 5 => 5 | 9 => 9 | n => n, fun | n => n⟩
def Tryz.lays317_ren : Go.Shelf.Ren := ⟨fun | 317 => 120 | n => n, fun | 3 => 3 | 46 => 82 | n => n, fun | n => n⟩
def Tryz.lays318_ren : Go.Shelf.Ren := ⟨fun | 318 => 122 | n => n, fun | 3 => 3 | 4 => 4 | n => n, fun | n => n⟩
def Tryz.lays283_ren : Go.Shelf.Ren := ⟨fun | 283 => 106 | n => n, fun | 3 => 3 | 9 => 9 | 4 => 4 | n => n, fun | n => n⟩
theorem Tryz.lays283 : Go.Proofs.Lays.n283 Tryz.prog Tryz.lays283_ren := {
  mixed := by kernel_rfl
  f283 := Tryz.func106.trans (congrArg some (by kernel_rfl))
  t3 := Tryz.underlying3
  a3 := Tryz.isAgg3
  z3 := Tryz.sizeOf3
  v3 := Tryz.zeroValue3
  t4 := Tryz.underlying4
  a4 := Tryz.isAgg4
  z4 := Tryz.sizeOf4
  v4 := Tryz.zeroValue4
  t9 := Tryz.underlying9
  a9 := Tryz.isAgg9
  z9 := Tryz.sizeOf9
  v9 := Tryz.zeroValue9 }
open Go.Lib in
theorem Tryz.internal_strconv_small (i : Nat) (h : i < 100) (w : World) :
    Calls Tryz.prog 106 #[.int .i64 i] w fun e w' => e = .returned (.string ⟨(Lib.decDigits i).toArray⟩) ∧ w' = w := Any.internal_strconv_small Tryz.lays283 i h w
def Tryz.laysM284_ren : Go.Shelf.Ren := ⟨fun | 284 => 107 | 129 => 121 | 317 => 120 | 318 => 122 | n => n, fun | 53 => 24 | 3 => 3 | 212 => 175 | 0 => 0 | 4 => 4 | 46 => 82 | 5 => 5 | 9 => 9 | n => n, fun | 17 => 1 | n => n⟩
theorem Tryz.laysM284 : Go.Proofs.LaysM.n284 Tryz.prog Tryz.laysM284_ren := {
  mixed := by kernel_rfl
  f129 := Tryz.func121.trans (congrArg some (by kernel_rfl))
  f284 := Tryz.func107.trans (congrArg some (by kernel_rfl))
  f317 := Tryz.func120.trans (congrArg some (by kernel_rfl))
  f318 := Tryz.func122.trans (congrArg some (by kernel_rfl))
  t0 := Tryz.underlying0
  a0 := Tryz.isAgg0
  z0 := Tryz.sizeOf0
  v0 := Tryz.zeroValue0
  t3 := Tryz.underlying3
  a3 := Tryz.isAgg3
  z3 := Tryz.sizeOf3
  v3 := Tryz.zeroValue3
  t4 := Tryz.underlying4
  a4 := Tryz.isAgg4
  z4 := Tryz.sizeOf4
  v4 := Tryz.zeroValue4
  t5 := Tryz.underlying5
  a5 := Tryz.isAgg5
  z5 := Tryz.sizeOf5
  v5 := Tryz.zeroValue5
  t9 := Tryz.underlying9
  a9 := Tryz.isAgg9
  z9 := Tryz.sizeOf9
  v9 := Tryz.zeroValue9
  t46 := Tryz.underlying82
  a46 := Tryz.isAgg82
  z46 := Tryz.sizeOf82
  v46 := Tryz.zeroValue82
  t53 := Tryz.underlying24
  a53 := Tryz.isAgg24
  z53 := Tryz.sizeOf24
  v53 := Tryz.zeroValue24
  t212 := Tryz.underlying175
  a212 := Tryz.isAgg175
  z212 := Tryz.sizeOf175
  v212 := Tryz.zeroValue175
  g17 := by kernel_rfl
  i0 := by kernel_rfl
  i3 := by kernel_rfl
  i4 := by kernel_rfl
  i5 := by kernel_rfl
  i9 := by kernel_rfl
  i46 := by kernel_rfl
  i53 := by kernel_rfl
  i212 := by kernel_rfl
  m17 := by kernel_rfl }
open Go.Lib in
theorem Tryz.internal_strconv_numDigits (u : Nat) (h1 : 1 ≤ u) (h2 : u < 18446744073709551616) (w : World) (htab : Lib.TabIs Tryz.prog w "internal/strconv.uint64pow10" .u64 Lib.pow10Tab) :
    Calls Tryz.prog 107 #[.int .u64 u] w fun e w' => e = .returned (.int .i64 (Lib.nDigits u)) ∧ w' = w := Any.internal_strconv_numDigits Tryz.laysM284 u h1 h2 w htab
def Tryz.lays285_ren : Go.Shelf.Ren := ⟨fun | 285 => 108 | n => n, fun | 37 => 22 | 53 => 24 | 3 => 3 | 4 => 4 | 51 => 25 | 9 => 9 | 5 => 5 | 0 => 0 | n => n, fun | n => n⟩
theorem Tryz.lays285 : Go.Proofs.Lays.n285 Tryz.prog Tryz.lays285_ren := {
  mixed := by kernel_rfl
  f285 := Tryz.func108.trans (congrArg some (by kernel_rfl))
  t0 := Tryz.underlying0
  a0 := Tryz.isAgg0
  z0 := Tryz.sizeOf0
  v0 := Tryz.zeroValue0
  t3 := Tryz.underlying3
  a3 := Tryz.isAgg3
  z3 := Tryz.sizeOf3
  v3 := Tryz.zeroValue3
  t4 := Tryz.underlying4
  a4 := Tryz.isAgg4
  z4 := Tryz.sizeOf4
  v4 := Tryz.zeroValue4
  t5 := Tryz.underlying5
  a5 := Tryz.isAgg5
  z5 := Tryz.sizeOf5
  v5 := Tryz.zeroValue5
  t9 := Tryz.underlying9
  a9 := Tryz.isAgg9
  z9 := Tryz.sizeOf9
  v9 := Tryz.zeroValue9
  t37 := Tryz.underlying22
  a37 := Tryz.isAgg22
  z37 := Tryz.sizeOf22
  v37 := Tryz.zeroValue22
  t51 := Tryz.underlying25
  a51 := Tryz.isAgg25
  z51 := Tryz.sizeOf25
  v51 := Tryz.zeroValue25
  t53 := Tryz.underlying24
  a53 := Tryz.isAgg24
  z53 := Tryz.sizeOf24
  v53 := Tryz.zeroValue24 }
open Go.RowKit Go.Sort Go.Lib in
theorem Tryz.internal_strconv_formatBase10 (blk off cap : Nat) (u : Nat) (d : Array UInt8) (w : World) (hH : Holds (fun (b : UInt8) => Value.int .u8 (b.toNat : Int)) w blk off d) (hu : u < 10 ^ d.size) (hu64 : u < 18446744073709551616) (hsz : d.size < 4611686018427387904) :
    Calls Tryz.prog 108 #[.slice (some ⟨blk, off, none⟩) d.size cap, .int .u64 u] w fun e w' =>
      e = .returned (.tuple #[]) ∧ ∃ (n v' : Nat) (dk : Array UInt8), w' = (putRow (fun (b : UInt8) => Value.int .u8 (b.toNat : Int)) w blk off dk).drewN n ∧ FmtInv d.size u 0 v' dk := Any.internal_strconv_formatBase10 Tryz.lays285 blk off cap u d w hH hu hu64 hsz
def Tryz.laysM246_ren : Go.Shelf.Ren := ⟨fun | 246 => 104 | 283 => 106 | 284 => 107 | 285 => 108 | 286 => 109 | 129 => 121 | 317 => 120 | 318 => 122 | 319 => 123 | 320 => 124 | 337 => 129 | 338 => 130 | n => n, fun | 2 => 2 | 3 => 3 | 9 => 9 | 4 => 4 | 171 => 161 | 0 => 0 | 53 => 24 | 37 => 22 | 5 => 5 | 173 => 164 | 212 => 175 | 51 => 25 | 20 => 20 | 213 => 176 | 46 => 82 | 232 => 191 | 233 => 192 | n => n, fun | 17 => 1 | 18 => 4 | 19 => 5 | n => n⟩
def Tryz.lays246_ren : Go.Shelf.Ren := ⟨fun | 246 => 104 | 283 => 106 | 284 => 107 | 285 => 108 | 286 => 109 | 129 => 121 | 317 => 120 | 318 => 122 | 319 => 123 | 320 => 124 | 337 => 129 | 338 => 130 | n => n, fun | 2 => 2 | 3 => 3 | 9 => 9 | 4 => 4 | 171 => 161 | 0 => 0 | 53 => 24 | 37 => 22 | 5 => 5 | 173 => 164 | 212 => 175 | 51 => 25 | 20 => 20 | 213 => 176 | 46 => 82 | 232 => 191 | 233 => 192 | n => n, fun | 17 => 1 | 18 => 4 | 19 => 5 | n => n⟩
def Tryz.laysM243_ren : Go.Shelf.Ren := ⟨fun | 243 => 92 | 246 => 104 | 283 => 106 | 284 => 107 | 285 => 108 | 286 => 109 | 129 => 121 | 317 => 120 | 318 => 122 | 319 => 123 | 320 => 124 | 337 => 129 | 338 => 130 | n => n, fun | 3 => 3 | 9 => 9 | 2 => 2 | 4 => 4 | 171 => 161 | 0 => 0 | 53 => 24 | 37 => 22 | 5 => 5 | 173 => 164 | 212 => 175 | 51 => 25 | 20 => 20 | 213 => 176 | 46 => 82 | 232 => 191 | 233 => 192 | n => n, fun | 17 => 1 | 18 => 4 | 19 => 5 | n => n⟩
def Tryz.lays243_ren : Go.Shelf.Ren := ⟨fun | 243 => 92 | 246 => 104 | 283 => 106 | 284 => 107 | 285 => 108 | 286 => 109 | 129 => 121 | 317 => 120 | 318 => 122 | 319 => 123 | 320 => 124 | 337 => 129 | 338 => 130 | n => n, fun | 3 => 3 | 9 => 9 | 2 => 2 | 4 => 4 | 171 => 161 | 0 => 0 | 53 => 24 | 37 => 22 | 5 => 5 | 173 => 164 | 212 => 175 | 51 => 25 | 20 => 20 | 213 => 176 | 46 => 82 | 232 => 191 | 233 => 192 | n => n, fun | 17 => 1 | 18 => 4 | 19 => 5 | n => n⟩
def Tryz.laysM171_ren : Go.Shelf.Ren := ⟨fun | 171 => 60 | 243 => 92 | 246 => 104 | 283 => 106 | 284 => 107 | 285 => 108 | 286 => 109 | 129 => 121 | 317 => 120 | 318 => 122 | 319 => 123 | 320 => 124 | 337 => 129 | 338 => 130 | n => n, fun | 3 => 3 | 9 => 9 | 2 => 2 | 4 => 4 | 171 => 161 | 0 => 0 | 53 => 24 | 37 => 22 | 5 => 5 | 173 => 164 | 212 => 175 | 51 => 25 | 20 => 20 | 213 => 176 | 46 => 82 | 232 => 191 | 233 => 192 | n => n, fun | 17 => 1 | 18 => 4 | 19 => 5 | n => n⟩
theorem Tryz.laysM171 : Go.Proofs.LaysM.n171 Tryz.prog Tryz.laysM171_ren := {
  mixed := by kernel_rfl
  f129 := Tryz.func121.trans (congrArg some (by kernel_rfl))
  f171 := Tryz.func60.trans (congrArg some (by kernel_rfl))
  f243 := Tryz.func92.trans (congrArg some (by kernel_rfl))
  f246 := Tryz.func104.trans (congrArg some (by kernel_rfl))
  f283 := Tryz.func106.trans (congrArg some (by kernel_rfl))
  f284 := Tryz.func107.trans (congrArg some (by kernel_rfl))
  f285 := Tryz.func108.trans (congrArg some (by kernel_rfl))
  f286 := Tryz.func109.trans (congrArg some (by kernel_rfl))
  f317 := Tryz.func120.trans (congrArg some (by kernel_rfl))
  f318 := Tryz.func122.trans (congrArg some (by kernel_rfl))
  f319 := Tryz.func123.trans (congrArg some (by kernel_rfl))
  f320 := Tryz.func124.trans (congrArg some (by kernel_rfl))
  f337 := Tryz.func129.trans (congrArg some (by kernel_rfl))
  f338 := Tryz.func130.trans (congrArg some (by kernel_rfl))
  t0 := Tryz.underlying0
  a0 := Tryz.isAgg0
  z0 := Tryz.sizeOf0
  v0 := Tryz.zeroValue0
  t2 := Tryz.underlying2
  a2 := Tryz.isAgg2
  z2 := Tryz.sizeOf2
  v2 := Tryz.zeroValue2
  t3 := Tryz.underlying3
  a3 := Tryz.isAgg3
  z3 := Tryz.sizeOf3
  v3 := Tryz.zeroValue3
  t4 := Tryz.underlying4
  a4 := Tryz.isAgg4
  z4 := Tryz.sizeOf4
  v4 := Tryz.zeroValue4
  t5 := Tryz.underlying5
  a5 := Tryz.isAgg5
  z5 := Tryz.sizeOf5
  v5 := Tryz.zeroValue5
  t9 := Tryz.underlying9
  a9 := Tryz.isAgg9
  z9 := Tryz.sizeOf9
  v9 := Tryz.zeroValue9
  t20 := Tryz.underlying20
  a20 := Tryz.isAgg20
  z20 := Tryz.sizeOf20
  v20 := Tryz.zeroValue20
  t37 := Tryz.underlying22
  a37 := Tryz.isAgg22
  z37 := Tryz.sizeOf22
  v37 := Tryz.zeroValue22
  t46 := Tryz.underlying82
  a46 := Tryz.isAgg82
  z46 := Tryz.sizeOf82
  v46 := Tryz.zeroValue82
  t51 := Tryz.underlying25
  a51 := Tryz.isAgg25
  z51 := Tryz.sizeOf25
  v51 := Tryz.zeroValue25
  t53 := Tryz.underlying24
  a53 := Tryz.isAgg24
  z53 := Tryz.sizeOf24
  v53 := Tryz.zeroValue24
  t171 := Tryz.underlying161
  a171 := Tryz.isAgg161
  z171 := Tryz.sizeOf161
  v171 := Tryz.zeroValue161
  t173 := Tryz.underlying164
  a173 := Tryz.isAgg164
  z173 := Tryz.sizeOf164
  v173 := Tryz.zeroValue164
  t212 := Tryz.underlying175
  a212 := Tryz.isAgg175
  z212 := Tryz.sizeOf175
  v212 := Tryz.zeroValue175
  t213 := Tryz.underlying176
  a213 := Tryz.isAgg176
  z213 := Tryz.sizeOf176
  t232 := Tryz.underlying191
  a232 := Tryz.isAgg191
  z232 := Tryz.sizeOf191
  v232 := Tryz.zeroValue191
  t233 := Tryz.underlying192
  a233 := Tryz.isAgg192
  z233 := Tryz.sizeOf192
  v233 := Tryz.zeroValue192
  g17 := by kernel_rfl
  g18 := by kernel_rfl
  g19 := by kernel_rfl
  i0 := by kernel_rfl
  i2 := by kernel_rfl
  i3 := by kernel_rfl
  i4 := by kernel_rfl
  i5 := by kernel_rfl
  i9 := by kernel_rfl
  i20 := by kernel_rfl
  i37 := by kernel_rfl
  i46 := by kernel_rfl
  i51 := by kernel_rfl
  i53 := by kernel_rfl
  i171 := by kernel_rfl
  i173 := by kernel_rfl
  i212 := by kernel_rfl
  i232 := by kernel_rfl
  i233 := by kernel_rfl
  m17 := by kernel_rfl
  m18 := by kernel_rfl
  m19 := by kernel_rfl }
open Go.RowKit Go.Sort Go.Lib in
theorem Tryz.strconv_Itoa (n : Int) (h0 : -9223372036854775808 ≤ n) (h1 : n ≤ 9223372036854775807) (w : World) (htab : Lib.TabIs Tryz.prog w "internal/strconv.uint64pow10" .u64 Lib.pow10Tab) :
    Calls Tryz.prog 60 #[.int .i64 n] w fun e w' => e = .returned (.string ⟨(Lib.itoa n).toArray⟩) ∧ ∃ k os, w' = grow (w.drewN k) os := Any.strconv_Itoa Tryz.laysM171 n h0 h1 w htab
def Tryz.lays171_ren : Go.Shelf.Ren := ⟨fun | 171 => 60 | 243 => 92 | 246 => 104 | 283 => 106 | 284 => 107 | 285 => 108 | 286 => 109 | 129 => 121 | 317 => 120 | 318 => 122 | 319 => 123 | 320 => 124 | 337 => 129 | 338 => 130 | n => n, fun | 3 => 3 | 9 => 9 | 2 => 2 | 4 => 4 | 171 => 161 | 0 => 0 | 53 => 24 | 37 => 22 | 5 => 5 | 173 => 164 | 212 => 175 | 51 => 25 | 20 => 20 | 213 => 176 | 46 => 82 | 232 => 191 | 233 => 192 | n => n, fun | 17 => 1 | 18 => 4 | 19 => 5 | n => n⟩
def Tryz.laysM316_ren : Go.Shelf.Ren := ⟨fun | 316 => 127 | n => n, fun | 9 => 9 | 3 => 3 | 4 => 4 | 37 => 22 | 0 => 0 | 127 => 187 | 5 => 5 | n => n, fun | n => n⟩
def Tryz.laysM279_ren : Go.Shelf.Ren := ⟨fun | 279 => 114 | 316 => 127 | n => n, fun | 9 => 9 | 168 => 168 | 75 => 130 | 210 => 183 | 3 => 3 | 4 => 4 | 37 => 22 | 0 => 0 | 127 => 187 | 80 => 195 | 5 => 5 | n => n, fun | 15 => 2 | n => n⟩
def Tryz.laysC245_ren : Go.Shelf.Ren := ⟨fun | 245 => 100 | 279 => 114 | 280 => 115 | 281 => 116 | 282 => 117 | 316 => 127 | 171 => 60 | 205 => 128 | 243 => 92 | 246 => 104 | 283 => 106 | 284 => 107 | 285 => 108 | 286 => 109 | 129 => 121 | 317 => 120 | 318 => 122 | 319 => 123 | 320 => 124 | 337 => 129 | 338 => 130 | n => n, fun | 9 => 9 | 3 => 3 | 75 => 130 | 167 => 166 | 4 => 4 | 168 => 168 | 210 => 183 | 37 => 22 | 0 => 0 | 127 => 187 | 145 => 190 | 143 => 188 | 2 => 2 | 171 => 161 | 53 => 24 | 5 => 5 | 173 => 164 | 212 => 175 | 51 => 25 | 20 => 20 | 213 => 176 | 46 => 82 | 232 => 191 | 233 => 192 | 80 => 195 | n => n, fun | 15 => 2 | 16 => 3 | 17 => 1 | 18 => 4 | 19 => 5 | n => n⟩
def Tryz.lays287_ren : Go.Shelf.Ren := ⟨fun | 287 => 99 | 321 => 112 | 322 => 113 | n => n, fun | 9 => 9 | 3 => 3 | 53 => 24 | 75 => 130 | 4 => 4 | 167 => 166 | 5 => 5 | 46 => 82 | 37 => 22 | 0 => 0 | 21 => 21 | 80 => 195 | n => n, fun | n => n⟩
def Tryz.laysM280_ren : Go.Shelf.Ren := ⟨fun | 280 => 115 | 316 => 127 | n => n, fun | 9 => 9 | 168 => 168 | 75 => 130 | 210 => 183 | 3 => 3 | 4 => 4 | 37 => 22 | 0 => 0 | 127 => 187 | 80 => 195 | 5 => 5 | n => n, fun | 16 => 3 | n => n⟩
def Tryz.laysC172_ren : Go.Shelf.Ren := ⟨fun | 172 => 96 | 244 => 110 | 245 => 100 | 247 => 125 | 279 => 114 | 280 => 115 | 281 => 116 | 282 => 117 | 287 => 99 | 316 => 127 | 171 => 60 | 205 => 128 | 321 => 112 | 322 => 113 | 243 => 92 | 246 => 104 | 283 => 106 | 284 => 107 | 285 => 108 | 286 => 109 | 129 => 121 | 317 => 120 | 318 => 122 | 319 => 123 | 320 => 124 | 337 => 129 | 338 => 130 | n => n, fun | 9 => 9 | 3 => 3 | 75 => 130 | 76 => 149 | 4 => 4 | 5 => 5 | 167 => 166 | 37 => 22 | 0 => 0 | 85 => 178 | 2 => 2 | 168 => 168 | 53 => 24 | 175 => 131 | 46 => 82 | 210 => 183 | 127 => 187 | 145 => 190 | 143 => 188 | 21 => 21 | 171 => 161 | 173 => 164 | 212 => 175 | 51 => 25 | 20 => 20 | 213 => 176 | 232 => 191 | 233 => 192 | 80 => 195 | n => n, fun | 15 => 2 | 16 => 3 | 17 => 1 | 18 => 4 | 19 => 5 | n => n⟩
theorem Tryz.laysC172 : Go.Proofs.LaysC.n172 Tryz.prog Tryz.laysC172_ren := {
  mixed := by kernel_rfl
  f129 := Tryz.func121.trans (congrArg some (by kernel_rfl))
  f171 := Tryz.func60.trans (congrArg some (by kernel_rfl))
  f172 := Tryz.func96.trans (congrArg some (by kernel_rfl))
  f205 := Tryz.func128.trans (congrArg some (by kernel_rfl))
  f243 := Tryz.func92.trans (congrArg some (by kernel_rfl))
  f244 := Tryz.func110.trans (congrArg some (by kernel_rfl))
  f245 := Tryz.func100.trans (congrArg some (by kernel_rfl))
  f246 := Tryz.func104.trans (congrArg some (by kernel_rfl))
  f247 := Tryz.func125.trans (congrArg some (by kernel_rfl))
  f279 := Tryz.func114.trans (congrArg some (by kernel_rfl))
  f280 := Tryz.func115.trans (congrArg some (by kernel_rfl))
  f281 := Tryz.func116.trans (congrArg some (by kernel_rfl))
  f282 := Tryz.func117.trans (congrArg some (by kernel_rfl))
  f283 := Tryz.func106.trans (congrArg some (by kernel_rfl))
  f284 := Tryz.func107.trans (congrArg some (by kernel_rfl))
  f285 := Tryz.func108.trans (congrArg some (by kernel_rfl))
  f286 := Tryz.func109.trans (congrArg some (by kernel_rfl))
  f287 := Tryz.func99.trans (congrArg some (by kernel_rfl))
  f316 := Tryz.func127.trans (congrArg some (by kernel_rfl))
  f317 := Tryz.func120.trans (congrArg some (by kernel_rfl))
  f318 := Tryz.func122.trans (congrArg some (by kernel_rfl))
  f319 := Tryz.func123.trans (congrArg some (by kernel_rfl))
  f320 := Tryz.func124.trans (congrArg some (by kernel_rfl))
  f321 := Tryz.func112.trans (congrArg some (by kernel_rfl))
  f322 := Tryz.func113.trans (congrArg some (by kernel_rfl))
  f337 := Tryz.func129.trans (congrArg some (by kernel_rfl))
  f338 := Tryz.func130.trans (congrArg some (by kernel_rfl))
  t0 := Tryz.underlying0
  a0 := Tryz.isAgg0
  z0 := Tryz.sizeOf0
  v0 := Tryz.zeroValue0
  t2 := Tryz.underlying2
  a2 := Tryz.isAgg2
  z2 := Tryz.sizeOf2
  v2 := Tryz.zeroValue2
  t3 := Tryz.underlying3
  a3 := Tryz.isAgg3
  z3 := Tryz.sizeOf3
  v3 := Tryz.zeroValue3
  t4 := Tryz.underlying4
  a4 := Tryz.isAgg4
  z4 := Tryz.sizeOf4
  v4 := Tryz.zeroValue4
  t5 := Tryz.underlying5
  a5 := Tryz.isAgg5
  z5 := Tryz.sizeOf5
  v5 := Tryz.zeroValue5
  t9 := Tryz.underlying9
  a9 := Tryz.isAgg9
  z9 := Tryz.sizeOf9
  v9 := Tryz.zeroValue9
  t20 := Tryz.underlying20
  a20 := Tryz.isAgg20
  z20 := Tryz.sizeOf20
  v20 := Tryz.zeroValue20
  t21 := Tryz.underlying21
  a21 := Tryz.isAgg21
  z21 := Tryz.sizeOf21
  v21 := Tryz.zeroValue21
  t37 := Tryz.underlying22
  a37 := Tryz.isAgg22
  z37 := Tryz.sizeOf22
  v37 := Tryz.zeroValue22
  t46 := Tryz.underlying82
  a46 := Tryz.isAgg82
  z46 := Tryz.sizeOf82
  v46 := Tryz.zeroValue82
  t51 := Tryz.underlying25
  a51 := Tryz.isAgg25
  z51 := Tryz.sizeOf25
  v51 := Tryz.zeroValue25
  t53 := Tryz.underlying24
  a53 := Tryz.isAgg24
  z53 := Tryz.sizeOf24
  v53 := Tryz.zeroValue24
  t75 := Tryz.underlying130
  a75 := Tryz.isAgg130
  z75 := Tryz.sizeOf130
  v75 := Tryz.zeroValue130
  t76 := Tryz.underlying149
  a76 := Tryz.isAgg149
  z76 := Tryz.sizeOf149
  v76 := Tryz.zeroValue149
  t85 := Tryz.underlying178
  a85 := Tryz.isAgg178
  z85 := Tryz.sizeOf178
  v85 := Tryz.zeroValue178
  t127 := Tryz.underlying187
  a127 := Tryz.isAgg187
  z127 := Tryz.sizeOf187
  v127 := Tryz.zeroValue187
  t143 := Tryz.underlying188
  a143 := Tryz.isAgg188
  z143 := Tryz.sizeOf188
  v143 := Tryz.zeroValue188
  t145 := Tryz.underlying190
  a145 := Tryz.isAgg190
  z145 := Tryz.sizeOf190
  v145 := Tryz.zeroValue190
  t167 := Tryz.underlying166
  a167 := Tryz.isAgg166
  z167 := Tryz.sizeOf166
  v167 := Tryz.zeroValue166
  t168 := Tryz.underlying168
  a168 := Tryz.isAgg168
  z168 := Tryz.sizeOf168
  v168 := Tryz.zeroValue168
  t171 := Tryz.underlying161
  a171 := Tryz.isAgg161
  z171 := Tryz.sizeOf161
  v171 := Tryz.zeroValue161
  t173 := Tryz.underlying164
  a173 := Tryz.isAgg164
  z173 := Tryz.sizeOf164
  v173 := Tryz.zeroValue164
  t175 := Tryz.underlying131
  a175 := Tryz.isAgg131
  z175 := Tryz.sizeOf131
  v175 := Tryz.zeroValue131
  t210 := Tryz.underlying183
  a210 := Tryz.isAgg183
  z210 := Tryz.sizeOf183
  v210 := Tryz.zeroValue183
  t212 := Tryz.underlying175
  a212 := Tryz.isAgg175
  z212 := Tryz.sizeOf175
  v212 := Tryz.zeroValue175
  t213 := Tryz.underlying176
  a213 := Tryz.isAgg176
  z213 := Tryz.sizeOf176
  t232 := Tryz.underlying191
  a232 := Tryz.isAgg191
  z232 := Tryz.sizeOf191
  v232 := Tryz.zeroValue191
  t233 := Tryz.underlying192
  a233 := Tryz.isAgg192
  z233 := Tryz.sizeOf192
  v233 := Tryz.zeroValue192
  g15 := by kernel_rfl
  g16 := by kernel_rfl
  g17 := by kernel_rfl
  g18 := by kernel_rfl
  g19 := by kernel_rfl
  t80 := Tryz.underlying195
  a80 := Tryz.isAgg195
  z80 := Tryz.sizeOf195
  v80 := Tryz.zeroValue195
  i0 := by kernel_rfl
  i2 := by kernel_rfl
  i3 := by kernel_rfl
  i4 := by kernel_rfl
  i5 := by kernel_rfl
  i9 := by kernel_rfl
  i20 := by kernel_rfl
  i21 := by kernel_rfl
  i37 := by kernel_rfl
  i46 := by kernel_rfl
  i51 := by kernel_rfl
  i53 := by kernel_rfl
  i75 := by kernel_rfl
  i76 := by kernel_rfl
  i80 := by kernel_rfl
  i85 := by kernel_rfl
  i127 := by kernel_rfl
  i143 := by kernel_rfl
  i145 := by kernel_rfl
  i167 := by kernel_rfl
  i168 := by kernel_rfl
  i171 := by kernel_rfl
  i173 := by kernel_rfl
  i175 := by kernel_rfl
  i210 := by kernel_rfl
  i212 := by kernel_rfl
  i232 := by kernel_rfl
  i233 := by kernel_rfl
  m15 := by kernel_rfl
  m16 := by kernel_rfl
  m17 := by kernel_rfl
  m18 := by kernel_rfl
  m19 := by kernel_rfl
  c0 := by kernel_rfl
  c2 := by kernel_rfl
  c3 := by kernel_rfl
  c4 := by kernel_rfl
  c5 := by kernel_rfl
  c9 := by kernel_rfl
  c20 := by kernel_rfl
  c21 := by kernel_rfl
  c37 := by kernel_rfl
  c46 := by kernel_rfl
  c51 := by kernel_rfl
  c53 := by kernel_rfl
  c75 := by kernel_rfl
  c76 := by kernel_rfl
  c80 := by kernel_rfl
  c85 := by kernel_rfl
  c127 := by kernel_rfl
  c143 := by kernel_rfl
  c145 := by kernel_rfl
  c167 := by kernel_rfl
  c168 := by kernel_rfl
  c171 := by kernel_rfl
  c173 := by kernel_rfl
  c175 := by kernel_rfl
  c210 := by kernel_rfl
  c212 := by kernel_rfl
  c213 := by kernel_rfl
  c232 := by kernel_rfl
  c233 := by kernel_rfl }
open Go.RowKit in
theorem Tryz.strconv_Atoi_range_var (s : ByteArray) (hlim : s.size ≤ 281474976710656) (h : Lib.atoiAll s.data.toList = .range) (tp : TypeId) (p : Value) (w : World) (hvar : w.var? Tryz.prog "strconv.ErrRange" = some #[.iface tp p]) :
    Calls Tryz.prog 96 #[.string s] w fun e w' => ∃ N, e = .returned (.tuple #[.int .i64 (Lib.atoiSat s.data.toList), .iface 168 (.pointer (some ⟨N, 0, none⟩))]) ∧ w.heap.size ≤ N ∧ w'.heap[N]? = some (.cells #[.string ⟨#[65, 116, 111, 105]⟩, .string s, .iface tp p] 183 (0, 0)) ∧ Below w.heap.size w w' := Any.strconv_Atoi_range_var Tryz.laysC172 s hlim (h.trans rfl) tp p w hvar
def Tryz.laysPu14_ren : Go.Shelf.Ren := ⟨fun | 14 => 72 | 16 => 99 | 17 => 100 | 19 => 112 | 20 => 113 | 21 => 114 | 22 => 115 | 23 => 116 | 24 => 117 | 25 => 127 | 27 => 60 | 26 => 128 | 28 => 92 | 29 => 104 | 30 => 106 | 31 => 107 | 32 => 108 | 33 => 109 | 35 => 121 | 34 => 120 | 36 => 122 | 37 => 123 | 38 => 124 | 39 => 129 | 40 => 130 | n => n, fun | 9 => 9 | 3 => 3 | 22 => 24 | 24 => 130 | 25 => 131 | 4 => 4 | 34 => 166 | 5 => 5 | 36 => 82 | 37 => 22 | 0 => 0 | 39 => 168 | 21 => 21 | 44 => 183 | 47 => 187 | 50 => 190 | 48 => 188 | 2 => 2 | 52 => 161 | 55 => 164 | 59 => 175 | 60 => 25 | 20 => 20 | 61 => 176 | 65 => 191 | 66 => 192 | 67 => 195 | n => n, fun | 0 => 2 | 1 => 3 | 2 => 1 | 3 => 4 | 4 => 5 | n => n⟩
theorem Tryz.laysPu14 : Go.Proofs.LaysPu.n14 Tryz.prog Tryz.laysPu14_ren := {
  mixed := by kernel_rfl
  f14 := Tryz.func72.trans (congrArg some (by kernel_rfl))
  f16 := Tryz.func99.trans (congrArg some (by kernel_rfl))
  f17 := Tryz.func100.trans (congrArg some (by kernel_rfl))
  f19 := Tryz.func112.trans (congrArg some (by kernel_rfl))
  f20 := Tryz.func113.trans (congrArg some (by kernel_rfl))
  f21 := Tryz.func114.trans (congrArg some (by kernel_rfl))
  f22 := Tryz.func115.trans (congrArg some (by kernel_rfl))
  f23 := Tryz.func116.trans (congrArg some (by kernel_rfl))
  f24 := Tryz.func117.trans (congrArg some (by kernel_rfl))
  f25 := Tryz.func127.trans (congrArg some (by kernel_rfl))
  f26 := Tryz.func128.trans (congrArg some (by kernel_rfl))
  f27 := Tryz.func60.trans (congrArg some (by kernel_rfl))
  f28 := Tryz.func92.trans (congrArg some (by kernel_rfl))
  f29 := Tryz.func104.trans (congrArg some (by kernel_rfl))
  f30 := Tryz.func106.trans (congrArg some (by kernel_rfl))
  f31 := Tryz.func107.trans (congrArg some (by kernel_rfl))
  f32 := Tryz.func108.trans (congrArg some (by kernel_rfl))
  f33 := Tryz.func109.trans (congrArg some (by kernel_rfl))
  f34 := Tryz.func120.trans (congrArg some (by kernel_rfl))
  f35 := Tryz.func121.trans (congrArg some (by kernel_rfl))
  f36 := Tryz.func122.trans (congrArg some (by kernel_rfl))
  f37 := Tryz.func123.trans (congrArg some (by kernel_rfl))
  f38 := Tryz.func124.trans (congrArg some (by kernel_rfl))
  f39 := Tryz.func129.trans (congrArg some (by kernel_rfl))
  f40 := Tryz.func130.trans (congrArg some (by kernel_rfl))
  t0 := Tryz.underlying0
  a0 := Tryz.isAgg0
  z0 := Tryz.sizeOf0
  v0 := Tryz.zeroValue0
  i0 := by kernel_rfl
  t2 := Tryz.underlying2
  a2 := Tryz.isAgg2
  z2 := Tryz.sizeOf2
  v2 := Tryz.zeroValue2
  i2 := by kernel_rfl
  t3 := Tryz.underlying3
  a3 := Tryz.isAgg3
  z3 := Tryz.sizeOf3
  v3 := Tryz.zeroValue3
  i3 := by kernel_rfl
  t4 := Tryz.underlying4
  a4 := Tryz.isAgg4
  z4 := Tryz.sizeOf4
  v4 := Tryz.zeroValue4
  i4 := by kernel_rfl
  t5 := Tryz.underlying5
  a5 := Tryz.isAgg5
  z5 := Tryz.sizeOf5
  v5 := Tryz.zeroValue5
  i5 := by kernel_rfl
  t9 := Tryz.underlying9
  a9 := Tryz.isAgg9
  z9 := Tryz.sizeOf9
  v9 := Tryz.zeroValue9
  i9 := by kernel_rfl
  t20 := Tryz.underlying20
  a20 := Tryz.isAgg20
  z20 := Tryz.sizeOf20
  v20 := Tryz.zeroValue20
  i20 := by kernel_rfl
  t21 := Tryz.underlying21
  a21 := Tryz.isAgg21
  z21 := Tryz.sizeOf21
  v21 := Tryz.zeroValue21
  i21 := by kernel_rfl
  t22 := Tryz.underlying24
  a22 := Tryz.isAgg24
  z22 := Tryz.sizeOf24
  v22 := Tryz.zeroValue24
  i22 := by kernel_rfl
  t24 := Tryz.underlying130
  a24 := Tryz.isAgg130
  z24 := Tryz.sizeOf130
  v24 := Tryz.zeroValue130
  i24 := by kernel_rfl
  t25 := Tryz.underlying131
  a25 := Tryz.isAgg131
  z25 := Tryz.sizeOf131
  v25 := Tryz.zeroValue131
  i25 := by kernel_rfl
  t34 := Tryz.underlying166
  a34 := Tryz.isAgg166
  z34 := Tryz.sizeOf166
  v34 := Tryz.zeroValue166
  i34 := by kernel_rfl
  c34 := by kernel_rfl
  t36 := Tryz.underlying82
  a36 := Tryz.isAgg82
  z36 := Tryz.sizeOf82
  v36 := Tryz.zeroValue82
  i36 := by kernel_rfl
  t37 := Tryz.underlying22
  a37 := Tryz.isAgg22
  z37 := Tryz.sizeOf22
  v37 := Tryz.zeroValue22
  i37 := by kernel_rfl
  t39 := Tryz.underlying168
  a39 := Tryz.isAgg168
  z39 := Tryz.sizeOf168
  v39 := Tryz.zeroValue168
  i39 := by kernel_rfl
  t44 := Tryz.underlying183
  a44 := Tryz.isAgg183
  z44 := Tryz.sizeOf183
  v44 := Tryz.zeroValue183
  i44 := by kernel_rfl
  t47 := Tryz.underlying187
  a47 := Tryz.isAgg187
  z47 := Tryz.sizeOf187
  v47 := Tryz.zeroValue187
  i47 := by kernel_rfl
  t48 := Tryz.underlying188
  a48 := Tryz.isAgg188
  z48 := Tryz.sizeOf188
  v48 := Tryz.zeroValue188
  i48 := by kernel_rfl
  t50 := Tryz.underlying190
  a50 := Tryz.isAgg190
  z50 := Tryz.sizeOf190
  v50 := Tryz.zeroValue190
  i50 := by kernel_rfl
  t52 := Tryz.underlying161
  a52 := Tryz.isAgg161
  z52 := Tryz.sizeOf161
  v52 := Tryz.zeroValue161
  i52 := by kernel_rfl
  t55 := Tryz.underlying164
  a55 := Tryz.isAgg164
  z55 := Tryz.sizeOf164
  v55 := Tryz.zeroValue164
  i55 := by kernel_rfl
  t59 := Tryz.underlying175
  a59 := Tryz.isAgg175
  z59 := Tryz.sizeOf175
  v59 := Tryz.zeroValue175
  i59 := by kernel_rfl
  t60 := Tryz.underlying25
  a60 := Tryz.isAgg25
  z60 := Tryz.sizeOf25
  v60 := Tryz.zeroValue25
  i60 := by kernel_rfl
  t61 := Tryz.underlying176
  a61 := Tryz.isAgg176
  z61 := Tryz.sizeOf176
  t65 := Tryz.underlying191
  a65 := Tryz.isAgg191
  z65 := Tryz.sizeOf191
  v65 := Tryz.zeroValue191
  i65 := by kernel_rfl
  t66 := Tryz.underlying192
  a66 := Tryz.isAgg192
  z66 := Tryz.sizeOf192
  v66 := Tryz.zeroValue192
  i66 := by kernel_rfl
  t67 := Tryz.underlying195
  a67 := Tryz.isAgg195
  z67 := Tryz.sizeOf195
  v67 := Tryz.zeroValue195
  i67 := by kernel_rfl
  g0 := by kernel_rfl
  m0 := by kernel_rfl
  g1 := by kernel_rfl
  m1 := by kernel_rfl
  g2 := by kernel_rfl
  m2 := by kernel_rfl
  g3 := by kernel_rfl
  m3 := by kernel_rfl
  g4 := by kernel_rfl
  m4 := by kernel_rfl }
open Go.RowKit in
theorem Tryz.strconv_ParseUint_10_at64_ok (s : ByteArray) (hmax : s.size ≤ 9223372036854775806) (u : Nat) (h : Lib.parseUintB 64 s.data.toList = .ok u) (w : World) :
    Calls Tryz.prog 72 #[.string s, .int .i64 10, .int .i64 64] w fun e w' => e = .returned (.tuple #[.int .u64 u, .nilIface]) ∧ (w' = w ∨ w' = Lib.bytesWorld w 5 s) := Any.strconv_ParseUint_10_at64_ok Tryz.laysPu14 s hmax u h w
open Go.RowKit in
theorem Tryz.strconv_ParseUint_10_at64_syntax_var (s : ByteArray) (hlim : s.size ≤ 281474976710656) (h : Lib.parseUintB 64 s.data.toList = Lib.parseUintB 64 []) (tp : TypeId) (p : Value) (w : World) (hvar : w.var? Tryz.prog "strconv.ErrSyntax" = some #[.iface tp p]) :
    Calls Tryz.prog 72 #[.string s, .int .i64 10, .int .i64 64] w fun e w' => ∃ N, e = .returned (.tuple #[.int .u64 0, .iface 168 (.pointer (some ⟨N, 0, none⟩))]) ∧ w.heap.size ≤ N ∧ w'.heap[N]? = some (.cells #[.string ⟨#[80, 97, 114, 115, 101, 85, 105, 110, 116]⟩, .string s, .iface tp p] 183 (0, 0)) ∧ Below w.heap.size w w' := Any.strconv_ParseUint_10_at64_syntax_var Tryz.laysPu14 s hlim (h.trans rfl) tp p w hvar
open Go.RowKit in
theorem Tryz.strconv_ParseUint_10_at64_range_var (s : ByteArray) (hlim : s.size ≤ 281474976710656) (h : Lib.parseUintB 64 s.data.toList = .range) (tp : TypeId) (p : Value) (w : World) (hvar : w.var? Tryz.prog "strconv.ErrRange" = some #[.iface tp p]) :
    Calls Tryz.prog 72 #[.string s, .int .i64 10, .int .i64 64] w fun e w' => ∃ N, e = .returned (.tuple #[.int .u64 18446744073709551615, .iface 168 (.pointer (some ⟨N, 0, none⟩))]) ∧ w.heap.size ≤ N ∧ w'.heap[N]? = some (.cells #[.string ⟨#[80, 97, 114, 115, 101, 85, 105, 110, 116]⟩, .string s, .iface tp p] 183 (0, 0)) ∧ Below w.heap.size w w' := Any.strconv_ParseUint_10_at64_range_var Tryz.laysPu14 s hlim (h.trans rfl) tp p w hvar
end Go.Proofs
/- strconv.FormatUint at base 10 and text.Decimal: the numeral. (Turned from the kit's worked walk of FormatInt: a row of bytes from place 0.) -/
namespace Go.Proofs.YthpejgmkiomfhaaGreatDoor
open Go Go.RowKit Go.Sort Go.Lib
theorem holds_zero0 (w : World) (T : TypeId) (nd : Nat) (hs : nd ≤ 24) : Holds (fun (b : UInt8) => Value.int .u8 (b.toNat : Int)) (w.alloc (.cells zeros24 T)) w.heap.size 0 (Array.replicate nd (0 : UInt8)) := fun j hj => by
  have hj' : j < nd := by simpa using hj
  refine ⟨?_, World.frozen?_alloc_new _ _ _ _⟩
  rw [World.cell?_alloc_new, zeros24_at _ (by omega), getElem!_pos _ j hj]
  simp
theorem fin_pos0 (w : World) (o : Obj) (dk : Array UInt8) (k : Nat) : ∃ os, (putRow (fun (b : UInt8) => Value.int .u8 (b.toNat : Int)) (w.alloc o) w.heap.size 0 dk).drewN k = grow (w.drewN k) os := by
  rw [alloc_eq_grow]
  obtain ⟨os', _, e⟩ := putRow_grow_new (fun (b : UInt8) => Value.int .u8 (b.toNat : Int)) w #[o] w.heap.size 0 dk (Nat.le_refl _)
  exact ⟨os', by rw [e]; rfl⟩
set_option maxRecDepth 100000 in
theorem fmtUint_small (i : Nat) (hi : i < 100) (w : World) : Calls Go.Proofs.Tryz.prog 95 #[.int .u64 i, .int .i64 10] w fun e w' => e = .returned (.string ⟨(Lib.decDigits i).toArray⟩) ∧ w' = w := by
  have hcv : IntKind.i64.wrap (i : Int) = (i : Int) := by rw [IntKind.wrap_i64]; omega
  go_enter Tryz.func95, Tryz.ntmps95
  go_wp2_with (go_at_call 106; refine (Tryz.internal_strconv_small i hi _).mono ?_; rintro e w' ⟨rfl, rfl⟩)
  go_ret
  exact ⟨rfl, rfl⟩
set_option maxHeartbeats 6400000 in
set_option maxRecDepth 100000 in
theorem fmtUint_big (u : Nat) (h1 : 100 ≤ u) (hu64 : u < 18446744073709551616) (w : World) (htab : Lib.TabIs Go.Proofs.Tryz.prog w "internal/strconv.uint64pow10" .u64 Lib.pow10Tab) :
    Calls Go.Proofs.Tryz.prog 95 #[.int .u64 u, .int .i64 10] w fun e w' => e = .returned (.string ⟨(Lib.decDigits u).toArray⟩) ∧ ∃ k os, w' = grow (w.drewN k) os := by
  have hu1 : 1 ≤ u := by omega
  have hnd20 : Lib.nDigits u ≤ 20 := by have := Lib.numDigits_eq u hu1 hu64; split at this <;> omega
  have hb3 : Lib.nDigits u ≤ 23 := by omega
  have hal : Go.Proofs.Tryz.prog.arrayLen 161 = 24 := by simp [Program.arrayLen, Tryz.underlying161]
  have hsl1 : ∀ W, (Instr.sliceAt 161 (.pointer (some ⟨w.heap.size, 0, none⟩)) none (some (.int .i64 (Lib.nDigits u : Int))) none).run Go.Proofs.Tryz.prog W = .ok (.slice (some ⟨w.heap.size, 0, none⟩) (Lib.nDigits u) 24) W := fun W => by
    rw [run_sliceAt_array_h W 161 ⟨w.heap.size, 0, none⟩ (by simp [Program.arrayLen, Program.elem, Tryz.underlying161]) .i64 (Lib.nDigits u : Int) (by omega) (by rw [hal]; omega)]
    go_simp
  have hH0 := holds_zero0 w 161 (Lib.nDigits u) (by omega)
  have hfmt := Tryz.internal_strconv_formatBase10 w.heap.size 0 24 u (Array.replicate (Lib.nDigits u) 0) (w.alloc (.cells Lib.zeros24 161)) hH0 (by rw [Array.size_replicate]; exact Lib.lt_pow_nDigits u) hu64 (by rw [Array.size_replicate]; omega)
  rw [Array.size_replicate] at hfmt
  have HH0 := Lib.hid hH0
  clear hH0 hal
  go_enter Tryz.func95, Tryz.ntmps95
  go_wp2_with (first
    | (go_at_call 107; refine (Tryz.internal_strconv_numDigits u hu1 hu64 _ (Lib.tabIs_alloc htab _)).mono ?_; rintro e w' ⟨rfl, rfl⟩))
  go_at_call 108
  refine hfmt.mono ?_
  rintro e w' ⟨rfl, k, v', dk, rfl, hF⟩
  have hcv : (convert 22 9 (.slice (some ⟨w.heap.size, 0, none⟩) (Lib.nDigits u) 24)).run Go.Proofs.Tryz.prog ((putRow (fun (b : UInt8) => Value.int .u8 (b.toNat : Int)) (w.alloc (.cells Lib.zeros24 161)) w.heap.size 0 dk).drewN k) = .ok (.string ⟨(Lib.decDigits u).toArray⟩) ((putRow (fun (b : UInt8) => Value.int .u8 (b.toNat : Int)) (w.alloc (.cells Lib.zeros24 161)) w.heap.size 0 dk).drewN k) := by
    have h := run_convert_bytes_back (P := Go.Proofs.Tryz.prog) ((putRow (fun (b : UInt8) => Value.int .u8 (b.toNat : Int)) (w.alloc (.cells Lib.zeros24 161)) w.heap.size 0 dk).drewN k) 22 9 5 ⟨w.heap.size, 0, none⟩ 24 (Lib.decDigits u) Tryz.underlying22 Tryz.underlying5 Tryz.underlying9 (fun j hj => by
      rw [Lib.row_is_numeral hF j hj, Lib.add_plain, World.cell?_drewN]
      exact cell?_putRow (fun (b : UInt8) => Value.int .u8 (b.toNat : Int)) _ w.heap.size 0 _ dk HH0.out (by rw [hF.size, Array.size_replicate]) j (by rw [hF.size]; rw [Lib.decDigits_length] at hj; exact hj))
    rw [Lib.decDigits_length] at h
    exact h
  go_wp2
  go_ret
  obtain ⟨os, eo⟩ := fin_pos0 w (.cells Lib.zeros24 161) dk k
  exact ⟨rfl, k, os, eo⟩
theorem grow_below (w : World) (k : Nat) (os : Array Obj) : Below w.heap.size w (grow (w.drewN k) os) :=
  ⟨rfl, rfl, rfl, by simp [grow, World.drewN], fun i hi => by simp [grow, World.drewN, Array.getElem?_append, hi]⟩
theorem fmtUint (u : Nat) (hu64 : u < 18446744073709551616) (w : World) (htab : Lib.TabIs Go.Proofs.Tryz.prog w "internal/strconv.uint64pow10" .u64 Lib.pow10Tab) :
    Calls Go.Proofs.Tryz.prog 95 #[.int .u64 u, .int .i64 10] w fun e w' => e = .returned (.string ⟨(Lib.decDigits u).toArray⟩) ∧ Below w.heap.size w w' := by
  by_cases h : u < 100
  · refine (fmtUint_small u h w).mono ?_
    rintro e w' ⟨rfl, rfl⟩
    exact ⟨rfl, Below.refl _ _⟩
  · refine (fmtUint_big u (by omega) hu64 w htab).mono ?_
    rintro e w' ⟨rfl, k, os, rfl⟩
    exact ⟨rfl, grow_below w k os⟩
set_option maxRecDepth 100000 in
theorem fmtUintP (u : Nat) (hu64 : u < 18446744073709551616) (w : World) (htab : Lib.TabIs Go.Proofs.Tryz.prog w "internal/strconv.uint64pow10" .u64 Lib.pow10Tab) :
    Calls Go.Proofs.Tryz.prog 64 #[.int .u64 u, .int .i64 10] w fun e w' => e = .returned (.string ⟨(Lib.decDigits u).toArray⟩) ∧ Below w.heap.size w w' := by
  go_enter Tryz.func64, Tryz.ntmps64
  go_wp2_with (go_at_call 95; refine (fmtUint u hu64 _ htab).mono ?_; rintro e w' ⟨rfl, hb⟩)
  go_ret
  exact ⟨rfl, hb⟩
set_option maxRecDepth 100000 in
theorem decimalC (u : Nat) (hu64 : u < 18446744073709551616) (w : World) (htab : Lib.TabIs Go.Proofs.Tryz.prog w "internal/strconv.uint64pow10" .u64 Lib.pow10Tab) :
    Calls Go.Proofs.Tryz.prog 41 #[.int .u64 u] w fun e w' => e = .returned (.string ⟨(Lib.decDigits u).toArray⟩) ∧ Below w.heap.size w w' := by
  go_enter Tryz.func41, Tryz.ntmps41
  go_wp2_with (go_at_call 64; refine (fmtUintP u hu64 _ htab).mono ?_; rintro e w' ⟨rfl, hb⟩)
  go_ret
  exact ⟨rfl, hb⟩
end Go.Proofs.YthpejgmkiomfhaaGreatDoor
/- The plain law of numerals: what is read as a number by the loop is what ParseUint reads and Decimal writes back. -/
namespace Go.Rx
open Go Go.Lib
structure Tg where
  tag : Int
  value : ByteArray
deriving DecidableEq, Inhabited
def Tg.enc (t : Tg) : List Value := [.int .i64 t.tag, .string t.value]
def valueF (xs : List Tg) (tag : Int) : Option ByteArray := (xs.find? fun t => decide (t.tag = tag)).map (·.value)
def valueV : Option ByteArray → Value | some s => .tuple #[.string s, .bool true] | none => .tuple #[.string ⟨#[]⟩, .bool false]
def natRest : List UInt8 → Nat → Option Nat
  | [], n => some n
  | c :: r, n => if c.toNat < 48 ∨ 57 < c.toNat then none else if (18446744073709551615 - (c.toNat - 48)) / 10 < n then none else natRest r (n * 10 + (c.toNat - 48))
def natF (s : ByteArray) : Option Nat := if s.size < 1 ∨ 20 < s.size ∨ (1 < s.size ∧ bAt s 0 = 48) then none else natRest s.data.toList 0
def natV : Option Nat → Value | some n => .tuple #[.int .u64 (n : Int), .bool true] | none => .tuple #[.int .u64 0, .bool false]
def okOf : NumEnd Nat → Option Nat | .ok u => some u | _ => none
def numOf (s : ByteArray) : Option Nat := match okOf (parseUintB 64 s.data.toList) with | some u => if decDigits u = s.data.toList then some u else none | none => none
def numV : Option ByteArray → Value
  | none => .tuple #[.int .u64 0, .int .i64 30]
  | some s => match numOf s with | some n => .tuple #[.int .u64 (n : Int), .int .i64 0] | none => .tuple #[.int .u64 0, .int .i64 31]
theorem natRest_eq : ∀ (l : List UInt8) (n : Nat), natRest l n = okOf (parseUintM 18446744073709551615 n l)
  | [], n => rfl
  | c :: r, n => by
    simp only [natRest, parseUintM]
    by_cases h : 48 ≤ c.toNat ∧ c.toNat ≤ 57
    · rw [if_neg (by omega), if_pos h]
      by_cases h2 : (18446744073709551615 - (c.toNat - 48)) / 10 < n
      · rw [if_pos h2]
        by_cases h3 : 1844674407370955162 ≤ n
        · rw [if_pos h3]; rfl
        · rw [if_neg h3, if_pos (by omega)]; rfl
      · rw [if_neg h2, if_neg (by omega), if_neg (by omega)]
        exact natRest_eq r _
    · rw [if_pos (by omega), if_neg h]; rfl
theorem dec_step {acc d : Nat} (h : 1 ≤ acc) (hd : d ≤ 9) : decDigits (acc * 10 + d) = decDigits acc ++ [UInt8.ofNat (48 + d)] := by
  rw [decDigits, dif_neg (by omega), show (acc * 10 + d) / 10 = acc by omega, show (acc * 10 + d) % 10 = d by omega]
theorem ofDigit {c : UInt8} (h : 48 ≤ c.toNat) : UInt8.ofNat (48 + (c.toNat - 48)) = c := by
  rw [show 48 + (c.toNat - 48) = c.toNat by omega, UInt8.ofNat_toNat]
theorem dec_parse {M : Nat} : ∀ (l : List UInt8) (acc u : Nat), 1 ≤ acc → parseUintM M acc l = .ok u → decDigits u = decDigits acc ++ l
  | [], acc, u, _, h => by
    simp only [parseUintM] at h
    cases h
    simp
  | c :: r, acc, u, h1, h => by
    simp only [parseUintM] at h
    split at h
    · rename_i hc
      split at h
      · cases h
      · split at h
        · cases h
        · rw [dec_parse r _ u (by omega) h, dec_step h1 (by omega), ofDigit hc.1]
          simp
    · cases h
theorem dec_parse0 {M : Nat} {c : UInt8} {r : List UInt8} {u : Nat} (h : parseUintM M 0 (c :: r) = .ok u) (hz : ¬ (r ≠ [] ∧ c.toNat = 48)) : decDigits u = c :: r := by
  simp only [parseUintM] at h
  split at h
  · rename_i hc
    split at h
    · cases h
    · split at h
      · cases h
      · rw [Nat.zero_mul, Nat.zero_add] at h
        have h9 : decDigits (c.toNat - 48) = [c] := by rw [decDigits_one (by omega), ofDigit hc.1]
        by_cases hr : r = []
        · subst hr
          simp only [parseUintM] at h
          cases h
          exact h9
        · have h48 : c.toNat ≠ 48 := fun hh => hz ⟨hr, hh⟩
          rw [dec_parse r _ u (by omega) h, h9]
          rfl
  · cases h
theorem dec_head : ∀ (u : Nat), 1 ≤ u → ∃ c r, decDigits u = c :: r ∧ c.toNat ≠ 48 := by
  intro u
  induction u using Nat.strongRecOn with
  | _ u ih =>
    intro h1
    by_cases h : u < 10
    · refine ⟨_, [], decDigits_one h, ?_⟩
      rw [UInt8.toNat_ofNat']
      omega
    · obtain ⟨c, r, h2, h3⟩ := ih (u / 10) (by omega) (by omega)
      refine ⟨c, r ++ [UInt8.ofNat (48 + u % 10)], ?_, h3⟩
      rw [decDigits, dif_neg h, h2]
      rfl
theorem dec_len {u : Nat} (h : u < 18446744073709551616) : (decDigits u).length ≤ 20 := by
  rw [decDigits_length]
  by_cases h1 : 1 ≤ u
  · have := numDigits_eq u h1 h
    split at this <;> omega
  · rw [nDigits_small (by omega)]; omega
theorem natF_eq (s : ByteArray) : natF s = numOf s := by
  have e64 : (2 : Nat) ^ 64 - 1 = 18446744073709551615 := by decide
  have hsz : s.size = s.data.toList.length := by simp
  have hb : bAt s 0 = ((s.data.toList[0]?.getD 0).toNat : Int) := by
    unfold bAt
    simp [Array.getElem?_toList]
  unfold natF numOf
  rw [hsz, hb]
  generalize s.data.toList = l
  cases l with
  | nil => simp [parseUintB, okOf]
  | cons c r =>
    have hp : parseUintB 64 (c :: r) = parseUintM 18446744073709551615 0 (c :: r) := by unfold parseUintB; rw [if_neg (by simp), e64]
    rw [natRest_eq, hp]
    have hle := fun u => parseUintM_le 18446744073709551615 (c :: r) 0 u (Nat.zero_le _)
    cases hq : parseUintM 18446744073709551615 0 (c :: r) with
    | ok u =>
      have hu := hle u hq
      simp only [okOf]
      have hkey : decDigits u = c :: r ↔ ¬ ((c :: r).length < 1 ∨ 20 < (c :: r).length ∨ (1 < (c :: r).length ∧ (((c :: r)[0]?.getD 0).toNat : Int) = 48)) := by
        have e0 : (c :: r)[0]?.getD 0 = c := rfl
        rw [e0]
        constructor
        · intro hd hh
          have hl := dec_len (u := u) (by omega)
          rw [hd] at hl
          rcases hh with hh | hh | ⟨hh, hc⟩
          · simp at hh
          · omega
          · have hc2 : c.toNat = 48 := by exact_mod_cast hc
            by_cases h1 : 1 ≤ u
            · obtain ⟨c', r', he, hn⟩ := dec_head u h1
              rw [hd] at he
              cases he
              exact hn hc2
            · have : u = 0 := by omega
              subst this
              rw [decDigits_one (by omega)] at hd
              cases hd
              simp at hh
        · intro hh
          refine dec_parse0 hq ?_
          rintro ⟨hr, hc⟩
          refine hh (.inr (.inr ⟨?_, by rw [hc]; rfl⟩))
          have : 0 < r.length := List.length_pos_iff.2 hr
          simp
          omega
      by_cases hd : decDigits u = c :: r
      · rw [if_neg (hkey.1 hd), if_pos hd]
      · rw [if_pos (Classical.byContradiction fun h => hd (hkey.2 h)), if_neg hd]
    | _ => simp [okOf]
end Go.Rx
/- Value of both, and the law's comparison of tags. -/
namespace Go.Rx
open Go Go.RowKit
set_option linter.unusedVariables false
set_option linter.unusedSimpArgs false
theorem Tg.eqL_enc (x y : Tg) : eqL x.enc y.enc = decide (x = y) := by
  cases x; cases y
  simp [Tg.enc, eqL, eqV, Bool.decide_and]
theorem valueF_hit {xs : List Tg} {tag : Int} {i : Nat} (hi : i < xs.length) (hn : ∀ j < i, (xs[j]!).tag ≠ tag) (h : (xs[i]!).tag = tag) : valueF xs tag = some (xs[i]!).value := by
  unfold valueF
  have : xs.find? (fun t => decide (t.tag = tag)) = some xs[i]! := by
    rw [List.find?_eq_some_iff_getElem]
    refine ⟨by simpa using h, i, hi, by rw [getElem!_pos xs i hi], fun j hj => ?_⟩
    have := hn j hj
    rw [getElem!_pos xs j (by omega)] at this
    simpa using this
  rw [this]
  rfl
theorem valueF_miss {xs : List Tg} {tag : Int} (hn : ∀ j < xs.length, (xs[j]!).tag ≠ tag) : valueF xs tag = none := by
  unfold valueF
  have : xs.find? (fun t => decide (t.tag = tag)) = none := by
    rw [List.find?_eq_none]
    intro t ht
    obtain ⟨j, hj, rfl⟩ := List.getElem_of_mem ht
    have := hn j hj
    rw [getElem!_pos xs j hj] at this
    simpa using this
  rw [this]
  rfl
theorem valueF_mem {xs : List Tg} {tag : Int} {s : ByteArray} (h : valueF xs tag = some s) : ∃ t ∈ xs, t.value = s := by
  unfold valueF at h
  rw [Option.map_eq_some_iff] at h
  obtain ⟨t, ht, rfl⟩ := h
  exact ⟨t, List.mem_of_find?_eq_some ht, rfl⟩
set_option maxHeartbeats 1000000 in
set_option maxRecDepth 100000 in
theorem textValue {w : World} {v : Value} {xs : List Tg} {tag : Int} (hr : RSl Tg.enc 2 w [] v xs) :
    Spec Go.Proofs.Tryz.prog 71 #[v, .int .i64 tag] w [] (fun u _ => u = valueV (valueF xs tag)) := by
  have hsm := hr.small
  refine Spec.enter (fn := Go.Proofs.Tryz.f71) (n := 21) [v, .int .i64 tag] Go.Proofs.Tryz.func71 (by kernel_rfl) rfl Go.Proofs.Tryz.ntmps71 Go.Proofs.Tryz.results71 rfl (Own.nil _) ?_
  refine JC.rs ?_
  refine Seq.p rfl Ev.assign ?_
  refine Seq.p rfl Ev.assign ?_
  refine Seq.nil ?_
  refine JC.seq ?_
  refine JC.rs ?_
  refine Seq.p rfl Ev.move ?_
  refine Seq.p rfl (Ev.lenSl sl.sl_api_Tag (hr := hr.r)) ?_
  refine Seq.p rfl Ev.move ?_
  refine Seq.nil ?_
  refine JC.blk ?_
  refine JC.loop (α := Nat) (I := fun i e1 H1 => Has [4, 5, 7, 10, 11, 12, 13, 14, 15, 16, 17, 18, 19, 20] [(10, .int .i64 (i : Int))] _ e1 ∧ H1 = _ ∧ i ≤ xs.length ∧ ∀ j < i, (xs[j]!).tag ≠ tag) (μ := fun i => xs.length - i) 0 ⟨Has.mk Off.refl (allLook_cons (by repeat (first | exact Look.here | apply Look.there (hne := rfl) | exact Look.const | apply Look.mix rfl | exact Look.arg0 | apply Look.args | exact Look.func)) allLook_nil), rfl, by omega, by omega⟩ ?_
  rintro i _ _ ⟨⟨u, rfl⟩, rfl, hi, hno⟩; dsimp only [setL]
  refine JC.rs ?_
  refine Seq.p rfl Ev.lt ?_
  refine Seq.nil ?_
  refine JC.seq ?_
  first | refine JC.c (ht := fun c11 => ?_) (hf := fun c11 => ?_) | refine JC.cb (ht := fun c11 => ?_) (hf := fun c11 => ?_)
  · -- then_t11
    have hi2 : i < xs.length := by omega
    refine JC.skip ?_
    refine JC.seq ?_
    refine JC.blk ?_
    refine JC.rs ?_
    refine Seq.p rfl (Ev.iaN sl.sl_api_Tag (hr := hr.r)) ?_
    refine Seq.p rfl (Ev.ldEA ag.api_Tag (hr := hr.r)) ?_
    refine Seq.alloc (cs := [_, _]) (hz := z.api_Tag) (k := ?_); intro b7
    refine Seq.storeN [_, _] sz.api_Tag (k := ?_)
    refine Seq.nil ?_
    refine JC.rs ?_
    refine Seq.p rfl (Ev.faB fd.api_Tag_0) ?_
    refine Seq.p rfl (Ev.ldB sc.int) ?_
    refine Seq.p rfl Ev.move ?_
    refine Seq.p rfl Ev.eq ?_
    refine Seq.nil ?_
    first | refine JC.c (ht := fun c17 => ?_) (hf := fun c17 => ?_) | refine JC.cb (ht := fun c17 => ?_) (hf := fun c17 => ?_)
    · -- then_t17
      refine JC.rs ?_
      refine Seq.p rfl (Ev.faB fd.api_Tag_1) ?_
      refine Seq.p rfl (Ev.ldB sc.string) ?_
      refine Seq.p rfl Ev.assign ?_
      refine Seq.p rfl Ev.assign ?_
      refine Seq.nil ?_
      refine JC.ret ?_
      show retQ _ _ _ _ _ _ _ _
      refine ret2 (hp := Part.nil _) (hpost := ?_)
      rw [valueF_hit hi2 hno c17]
      rfl
    · -- else_t17
      refine JC.skip ?_
      refine JC.reg ?_
      refine Seq.p rfl (by first | exact Ev.inc | exact Ev.add) ?_
      refine Seq.p rfl Ev.move ?_
      refine Seq.nil ?_
      refine ⟨i + 1, _, Part.skip (Part.refl _), ⟨Has.mk (by repeat (first | refine Off.upd ?_ rfl | exact Off.mix | refine Off.mix2 ?_ rfl | exact Off.refl)) (allLook_cons (by repeat (first | exact Look.here | apply Look.there (hne := rfl) | exact Look.const | apply Look.mix rfl | exact Look.arg0 | apply Look.args | exact Look.func)) allLook_nil), rfl, by omega, fun j hj => ?_⟩, by omega⟩
      by_cases h : j = i
      · rw [h]; exact c17
      · exact hno j (by omega)
  · -- else_t11
    refine JC.exit ?_ -- 0
    refine JC.rs ?_
    refine Seq.p rfl Ev.assign ?_
    refine Seq.p rfl Ev.assign ?_
    refine Seq.nil ?_
    refine JC.ret ?_
    show retQ _ _ _ _ _ _ _ _
    refine ret2 (hp := Part.nil _) (hpost := ?_)
    rw [valueF_miss (fun j hj => hno j (by omega))]
    rfl
theorem look_int {e : Env} {x : Operand} {k : IntKind} {a b : Int} (h : Look e x (.int k a)) (hab : a = b) : Look e x (.int k b) := hab ▸ h
end Go.Rx
/- text.Number: what ParseUint reads, if Decimal writes it back. -/
namespace Go.Proofs.YthpejgmkiomfhaaGreatDoor
open Go Go.RowKit Go.Sort Go.Lib Go.Rx
set_option linter.unusedVariables false
theorem var_below {P : Program} {w w' : World} {n : String} {x : Array Value} (hb : Below w.heap.size w w') (h : w.var? P n = some x) : w'.var? P n = some x := by
  unfold World.var? at *
  cases hg : P.globalNamed n with
  | none => simp [hg] at h
  | some g =>
    simp only [hg, Option.bind_some] at h ⊢
    have hlt : g < w.heap.size := by
      rcases Nat.lt_or_ge g w.heap.size with h' | h'
      · exact h'
      · rw [Array.getElem?_eq_none h'] at h; simp at h
    rw [hb.block g hlt]
    exact h
structure LaidT (w : World) : Prop where
  tab : Lib.TabIs Go.Proofs.Tryz.prog w "internal/strconv.uint64pow10" .u64 Lib.pow10Tab
theorem LaidT.below {w w' : World} (h : LaidT w) (hb : Below w.heap.size w w') : LaidT w' := ⟨var_below hb h.tab⟩
structure Laid (w : World) : Prop where
  tab : Lib.TabIs Go.Proofs.Tryz.prog w "internal/strconv.uint64pow10" .u64 Lib.pow10Tab
  syn : ∃ tp p, w.var? Go.Proofs.Tryz.prog "strconv.ErrSyntax" = some #[.iface tp p]
  rng : ∃ tp p, w.var? Go.Proofs.Tryz.prog "strconv.ErrRange" = some #[.iface tp p]
theorem Laid.below {w w' : World} (h : Laid w) (hb : Below w.heap.size w w') : Laid w' :=
  ⟨var_below hb h.tab, h.syn.imp fun _ h => h.imp fun _ h => var_below hb h, h.rng.imp fun _ h => h.imp fun _ h => var_below hb h⟩
theorem upd_of_below {w w' : World} (h : Below w.heap.size w w') : Upd w w' [] [] :=
  ⟨h.os, h.tape, h.output, h.size, fun i hi _ => h.block i hi, Own.nil _, fun _ hc => by cases hc⟩
theorem parse_ok (s : ByteArray) (hlim : s.size ≤ 281474976710656) (u : Nat) (h : parseUintB 64 s.data.toList = .ok u) (w : World) :
    Calls Go.Proofs.Tryz.prog 72 #[.string s, .int .i64 10, .int .i64 64] w fun e w' => e = .returned (.tuple #[.int .u64 u, .nilIface]) ∧ Below w.heap.size w w' := by
  refine (Tryz.strconv_ParseUint_10_at64_ok s (by omega) u h w).mono ?_
  rintro e w' ⟨rfl, rfl | rfl⟩
  · exact ⟨rfl, Below.refl _ _⟩
  · exact ⟨rfl, Lib.bytesWorld_below _ _ _⟩
theorem parse_bad (s : ByteArray) (hlim : s.size ≤ 281474976710656) (h : okOf (parseUintB 64 s.data.toList) = none) (w : World) (hL : Laid w) :
    Calls Go.Proofs.Tryz.prog 72 #[.string s, .int .i64 10, .int .i64 64] w fun e w' => ∃ (n : Int) (N : Nat), e = .returned (.tuple #[.int .u64 n, .iface 168 (.pointer (some ⟨N, 0, none⟩))]) ∧ Below w.heap.size w w' := by
  obtain ⟨⟨t1, p1, h1⟩, t2, p2, h2⟩ := And.intro hL.syn hL.rng
  by_cases hS : parseUintB 64 s.data.toList = parseUintB 64 []
  · refine (Tryz.strconv_ParseUint_10_at64_syntax_var s hlim hS t1 p1 w h1).mono ?_
    rintro e w' ⟨N, rfl, -, -, hb⟩
    exact ⟨_, N, rfl, hb⟩
  · have hq : parseUintB 64 s.data.toList = .range := by
      cases hq : parseUintB 64 s.data.toList with
      | ok u => rw [hq] at h; cases h
      | range => rfl
      | _ => exact absurd (hq.trans rfl) hS
    refine (Tryz.strconv_ParseUint_10_at64_range_var s hlim hq t2 p2 w h2).mono ?_
    rintro e w' ⟨N, rfl, -, -, hb⟩
    exact ⟨_, N, rfl, hb⟩
theorem valueC {w : World} {v : Value} {xs : List Tg} {tag : Int} {u : Value} (hr : RSl Tg.enc 2 w [] v xs) (hu : valueV (valueF xs tag) = u) :
    Calls Go.Proofs.Tryz.prog 71 #[v, .int .i64 tag] w fun e w' => e = .returned u ∧ Below w.heap.size w w' := by
  refine (textValue (tag := tag) hr).2.mono ?_
  rintro e w' ⟨_, H', rfl, hu', rfl⟩
  exact ⟨by rw [hu], hu'.below'⟩
theorem bytes_ext {s : ByteArray} {l : List UInt8} : (⟨l.toArray⟩ : ByteArray) = s ↔ l = s.data.toList := by
  constructor
  · rintro rfl; simp
  · rintro rfl; simp
set_option maxHeartbeats 4000000 in
set_option maxRecDepth 100000 in
theorem numberC {w : World} {v : Value} {xs : List Tg} {tag : Int} (hr : RSl Tg.enc 2 w [] v xs) (hsz : ∀ t ∈ xs, t.value.size ≤ 281474976710656) (hL : Laid w) :
    Calls Go.Proofs.Tryz.prog 46 #[v, .int .i64 tag] w fun e w' => e = .returned (numV (valueF xs tag)) ∧ Below w.heap.size w w' := by
  cases hv : valueF xs tag with
  | none =>
    have hval := valueC (tag := tag) (u := .tuple #[.string ⟨#[]⟩, .bool false]) hr (by rw [hv]; rfl)
    go_enter Tryz.func46, Tryz.ntmps46
    go_wp2_with (go_at_call 71; refine hval.mono ?_; rintro e w1 ⟨rfl, hb1⟩)
    go_ret2
    exact ⟨rfl, hb1⟩
  | some s =>
    have hval := valueC (tag := tag) (u := .tuple #[.string s, .bool true]) hr (by rw [hv]; rfl)
    have hlim : s.size ≤ 281474976710656 := by obtain ⟨t, ht, rfl⟩ := valueF_mem hv; exact hsz t ht
    cases hq : okOf (parseUintB 64 s.data.toList) with
    | none =>
      have hn : numV (some s) = .tuple #[.int .u64 0, .int .i64 31] := by simp only [numV, numOf, hq]
      rw [hn]
      go_enter Tryz.func46, Tryz.ntmps46
      go_wp2_with (go_at_call 71; refine hval.mono ?_; rintro e w1 ⟨rfl, hb1⟩)
      go_at_call 72
      refine (parse_bad s hlim hq _ (hL.below hb1)).mono ?_
      rintro e w2 ⟨n, N, rfl, hb2⟩
      go_wp2
      go_ret2
      exact ⟨rfl, hb1.trans (hb2.mono hb1.size)⟩
    | some u =>
      have hq2 : parseUintB 64 s.data.toList = .ok u := by
        cases h : parseUintB 64 s.data.toList with
        | ok u' => rw [h] at hq; simp only [okOf, Option.some.injEq] at hq; rw [hq]
        | _ => rw [h] at hq; cases hq
      have hu : u < 18446744073709551616 := by have h := parseUintB_le hq2; have e64 : (2 : Nat) ^ 64 - 1 = 18446744073709551615 := by decide
                                               omega
      by_cases hd : decDigits u = s.data.toList
      · have hn : numV (some s) = .tuple #[.int .u64 (u : Int), .int .i64 0] := by simp only [numV, numOf, hq, if_pos hd]
        rw [hn]
        have he := bytes_ext.2 hd
        go_enter Tryz.func46, Tryz.ntmps46
        go_wp2_with (go_at_call 71; refine hval.mono ?_; rintro e w1 ⟨rfl, hb1⟩)
        go_at_call 72
        refine (parse_ok s hlim u hq2 _).mono ?_
        rintro e w2 ⟨rfl, hb2⟩
        have hb := hb1.trans (hb2.mono hb1.size)
        have hL2 := (hL.below hb).tab
        go_wp2_with (go_at_call 41; refine (decimalC u hu _ hL2).mono ?_; rintro e w3 ⟨rfl, hb3⟩)
        go_ret2
        exact ⟨rfl, hb.trans (hb3.mono hb.size)⟩
      · have hn : numV (some s) = .tuple #[.int .u64 0, .int .i64 31] := by simp only [numV, numOf, hq, if_neg hd]
        rw [hn]
        have he : ¬ (⟨(decDigits u).toArray⟩ : ByteArray) = s := fun h => hd (bytes_ext.1 h)
        go_enter Tryz.func46, Tryz.ntmps46
        go_wp2_with (go_at_call 71; refine hval.mono ?_; rintro e w1 ⟨rfl, hb1⟩)
        go_at_call 72
        refine (parse_ok s hlim u hq2 _).mono ?_
        rintro e w2 ⟨rfl, hb2⟩
        have hb := hb1.trans (hb2.mono hb1.size)
        have hL2 := (hL.below hb).tab
        go_wp2_with (go_at_call 41; refine (decimalC u hu _ hL2).mono ?_; rintro e w3 ⟨rfl, hb3⟩)
        all_goals first
          | (go_ret2; exact ⟨rfl, hb.trans (hb3.mono hb.size)⟩)
          | (rename_i h; rw [Go.ByteArray.toList_eq] at h; simp [hd] at h)
instance {w : World} : Coe (Laid w) (LaidT w) := ⟨fun h => ⟨h.tab⟩⟩
theorem spec_of_below {f : FuncId} {args : Array Value} {w : World} {v : Value} (he : Go.Rx.Enters Go.Proofs.Tryz.prog f) (h : Calls Go.Proofs.Tryz.prog f args w fun e w' => e = .returned v ∧ Below w.heap.size w w') : Go.Rx.Spec Go.Proofs.Tryz.prog f args w [] (fun u _ => u = v) := by
  refine ⟨he, h.mono ?_⟩
  rintro e w' ⟨rfl, hb⟩
  exact ⟨_, [], rfl, upd_of_below hb, rfl⟩
theorem textNumber {w : World} {v : Value} {xs : List Tg} {tag : Int} (hr : RSl Tg.enc 2 w [] v xs) (hsz : ∀ t ∈ xs, t.value.size ≤ 281474976710656) (hL : Laid w) : Go.Rx.Spec Go.Proofs.Tryz.prog 46 #[v, .int .i64 tag] w [] (fun u _ => u = numV (valueF xs tag)) :=
  spec_of_below ⟨Tryz.f46, Tryz.func46, by kernel_rfl, rfl⟩ (numberC hr hsz hL)
theorem textDecimal {w : World} {u : Nat} (hu : u < 18446744073709551616) (hL : LaidT w) : Go.Rx.Spec Go.Proofs.Tryz.prog 41 #[.int .u64 u] w [] (fun v _ => v = .string ⟨(Lib.decDigits u).toArray⟩) :=
  spec_of_below ⟨Tryz.f41, Tryz.func41, by kernel_rfl, rfl⟩ (decimalC u hu w hL.tab)
theorem Laid.t {w : World} (h : Laid w) : LaidT w := ⟨h.tab⟩
theorem Laid.upd {w w' : World} {H : List Chunk} (h : Laid w) (hu : Upd w w' [] H) : Laid w' := h.below hu.below'
theorem LaidT.upd {w w' : World} {H : List Chunk} (h : LaidT w) (hu : Upd w w' [] H) : LaidT w' := h.below hu.below'
end Go.Proofs.YthpejgmkiomfhaaGreatDoor
/- The law bourselaw03.TextValues gives true. -/
namespace Go.Rx
open Go Go.RowKit Go.Proofs.YthpejgmkiomfhaaGreatDoor
set_option linter.unusedVariables false
def fiveT : List Tg := [⟨1, ⟨#[53]⟩⟩]
end Go.Rx
/- From the reading of a call's arguments to tags; from what a row lists to what the walks want. -/
namespace Go.Rx
open Go Go.RowKit
set_option linter.unusedVariables false
section
variable {H : Type} {enc : TypeId × Value → H} {P : Program} {w : World} {base : Nat} {held : Bool}
end
def Tg.dec : List Value → Tg
  | [.int .i64 n, .string s] => ⟨n, s⟩
  | _ => default
end Go.Rx
namespace Go.Proofs.YthpejgmkiomfhaaGreatDoor
open Go Go.RowKit Go.Rx Go.ChangeAt
set_option linter.unusedVariables false
theorem gSyn : Go.Proofs.Tryz.prog.globalNamed "strconv.ErrSyntax" = some 2 := by kernel_rfl
theorem gRng : Go.Proofs.Tryz.prog.globalNamed "strconv.ErrRange" = some 3 := by kernel_rfl
theorem gTab : Go.Proofs.Tryz.prog.globalNamed "internal/strconv.uint64pow10" = some 1 := by kernel_rfl
theorem gSynT : (Go.Proofs.Tryz.prog.globals[2]?).map (·.type) = some 130 := by kernel_rfl
theorem gRngT : (Go.Proofs.Tryz.prog.globals[3]?).map (·.type) = some 130 := by kernel_rfl
theorem gTabT : (Go.Proofs.Tryz.prog.globals[1]?).map (·.type) = some 175 := by kernel_rfl
theorem cells146 : Go.Proofs.Tryz.prog.cellsOf 190 = 1 := by kernel_rfl
theorem cells9 : Go.Proofs.Tryz.prog.cellsOf 9 = 1 := by kernel_rfl
theorem cells25 : Go.Proofs.Tryz.prog.cellsOf 24 = 1 := by kernel_rfl
theorem cells135 : Go.Proofs.Tryz.prog.cellsOf 175 = 20 := by kernel_rfl
theorem starErr : "*" ++ "errors.errorString" = "*errors.errorString" := by decide
theorem rowErr (u : TypeId) (h : Go.Proofs.Tryz.prog.typeName? 3 u = some "*errors.errorString") : u = 188 :=
  typeName_ptr_named (nm := "errors.errorString") (by rw [starErr]; kernel_rfl) (by kernel_rfl) (by decide) u (by rw [starErr]; exact h)
def theLaid : List (String × DataW Unit) := [("math/bits.deBruijn32tab", Rows.laid_math_bits_deBruijn32tab), ("math/bits.deBruijn64tab", Rows.laid_math_bits_deBruijn64tab), ("internal/strconv.uint64pow10", Rows.laid_internal_strconv_uint64pow10), ("strconv.ErrRange", Rows.laid_strconv_ErrRange), ("strconv.ErrSyntax", Rows.laid_strconv_ErrSyntax)]
theorem laid_of_met {W : World} (h : laidMet Go.Proofs.Tryz.prog theLaid W) : Laid W := by
  have h3 := h.tail.tail
  have hT : Lib.TabIs Go.Proofs.Tryz.prog W "internal/strconv.uint64pow10" .u64 Lib.pow10Tab := Lib.tabIs_of_head (zs := Lib.pow10Tab) gTab gTabT Go.Proofs.Tryz.underlying175 Go.Proofs.Tryz.underlying24 cells25 cells135 h3
  obtain ⟨a0, s0, hv0, -, -, -⟩ := laid_sentinel h3.tail gRng gRngT Go.Proofs.Tryz.underlying130 rowErr Go.Proofs.Tryz.underlying188 Go.Proofs.Tryz.underlying190 rfl rfl Go.Proofs.Tryz.underlying9 cells146 cells9
  obtain ⟨a1, s1, hv1, -, -, -⟩ := laid_sentinel h3.tail.tail gSyn gSynT Go.Proofs.Tryz.underlying130 rowErr Go.Proofs.Tryz.underlying188 Go.Proofs.Tryz.underlying190 rfl rfl Go.Proofs.Tryz.underlying9 cells146 cells9
  exact ⟨hT, ⟨_, _, hv1⟩, ⟨_, _, hv0⟩⟩
theorem met_plain {W : World} (h : laidMetH Go.Proofs.Tryz.prog theLaid W) : laidMet Go.Proofs.Tryz.prog theLaid W := h
end Go.Proofs.YthpejgmkiomfhaaGreatDoor
namespace Go.Proofs.YthpejgmkiomfhaaGreatDoor
open Go Go.RowKit Go.Rx Go.ChangeAt
theorem Tryz.own : ownKnob Go.Proofs.Tryz.prog.godebug = none := by kernel_rfl
theorem Tryz.laidOut : laidOutB Go.Proofs.Tryz.prog = true := by kernel_rfl
def tabCells : DataW Unit → Array Value
  | .agg l => (l.map fun
    | .lit (.int k n) => Value.int k n
    | _ => .nilIface).toArray
  | _ => #[]
def synS : ByteArray := { data := #[105, 110, 118, 97, 108, 105, 100, 32, 115, 121, 110, 116, 97, 120] }
def rngS : ByteArray := { data := #[118, 97, 108, 117, 101, 32, 111, 117, 116, 32, 111, 102, 32, 114, 97, 110, 103, 101] }
noncomputable def low : Nat := (World.holding Go.Proofs.Tryz.prog default ⟨#[], #[], []⟩).heap.size
def setC (cs : Array Value) : Obj → Obj
  | .cells _ t frozen => .cells cs t frozen
  | o => o
noncomputable def laidWorld (os : Os) : World :=
  let w0 := World.holding Go.Proofs.Tryz.prog os ⟨#[.cells #[.string synS] 190, .cells #[.string rngS] 190], #[], []⟩
  { w0 with heap := ((((w0.heap.modify 2 (setC #[.iface 188 (.pointer (some ⟨low, 0, none⟩))])).modify 3 (setC #[.iface 188 (.pointer (some ⟨low + 1, 0, none⟩))])).modify 1 (setC (tabCells Rows.laid_internal_strconv_uint64pow10))).modify 4 (setC (tabCells Rows.laid_math_bits_deBruijn32tab))).modify 5 (setC (tabCells Rows.laid_math_bits_deBruijn64tab)) }
theorem laidWorld_met (os : Os) (args : Array Value) : laidMetH Go.Proofs.Tryz.prog theLaid ((laidWorld os).forCall (fun _ _ => 0) ⟨#[], args, []⟩).memory :=
  show laidMet Go.Proofs.Tryz.prog theLaid _ from laidMet_of_run' 8 (by kernel_rfl) (by kernel_rfl)
end Go.Proofs.YthpejgmkiomfhaaGreatDoor
/- Small parts of a line, by the program and by the document: sums, kinds, tags, values, three digits. -/
namespace Go.Rx
open Go Go.RowKit
set_option linter.unusedVariables false
set_option linter.unusedSimpArgs false
def isBytes (l : List Int) : Prop := ∀ x ∈ l, 0 ≤ x ∧ x ≤ 255
def sumB (l : List Int) : Int := l.foldl (fun s x => (s + x) % 256) 0
theorem sumB_snoc {l : List Int} {i : Nat} (h : i < l.length) : sumB (l.take (i + 1)) = (sumB (l.take i) + l[i]!) % 256 := by
  rw [List.take_succ_eq_append_getElem h, getElem!_pos l i h]
  unfold sumB
  rw [List.foldl_append]
  rfl
theorem sumB_range (l : List Int) : 0 ≤ sumB l ∧ sumB l ≤ 255 := by
  unfold sumB
  suffices h : ∀ (l : List Int) (s : Int), 0 ≤ s ∧ s ≤ 255 → 0 ≤ l.foldl (fun s x => (s + x) % 256) s ∧ l.foldl (fun s x => (s + x) % 256) s ≤ 255 from h l 0 (by omega)
  intro l
  induction l with
  | nil => intro s hs; exact hs
  | cons x r ih => intro s hs; exact ih ((s + x) % 256) (by omega)
theorem isBytes_get {l : List Int} (hB : isBytes l) {i : Nat} (h : i < l.length) : 0 ≤ l[i]! ∧ l[i]! ≤ 255 := by
  rw [getElem!_pos l i h]
  exact hB _ (List.getElem_mem _)
set_option maxHeartbeats 1000000 in
set_option maxRecDepth 100000 in
theorem textSum {w : World} {v : Value} {l : List Int} (hr : RSl byteEnc 1 w [] v l) (hB : isBytes l) : Spec Go.Proofs.Tryz.prog 93 #[v] w [] (fun u _ => u = .int .i64 (sumB l)) := by
  have hsm := hr.small
  refine Spec.enter (fn := Go.Proofs.Tryz.f93) (n := 18) [v] Go.Proofs.Tryz.func93 (by kernel_rfl) rfl Go.Proofs.Tryz.ntmps93 Go.Proofs.Tryz.results93 rfl (Own.nil _) ?_
  refine JC.rs ?_
  refine Seq.p rfl Ev.assign ?_
  refine Seq.nil ?_
  refine JC.rs ?_
  refine Seq.p rfl Ev.assign ?_
  refine Seq.nil ?_
  refine JC.seq ?_
  refine JC.rs ?_
  refine Seq.p rfl Ev.move ?_
  refine Seq.p rfl (Ev.lenSl sl.sl_uint8 (hr := hr.r)) ?_
  refine Seq.p rfl Ev.move ?_
  refine Seq.nil ?_
  refine JC.blk ?_
  refine JC.loop (α := Nat) (I := fun i e1 H1 => Has [3, 5, 8, 9, 10, 11, 12, 13, 14, 15] [(3, .int .u8 (sumB (l.take i))), (8, .int .i64 (i : Int))] _ e1 ∧ H1 = _ ∧ i ≤ l.length) (μ := fun i => l.length - i) 0 ⟨Has.mk Off.refl (allLook_cons (by repeat (first | exact Look.here | apply Look.there (hne := rfl) | exact Look.const | apply Look.mix rfl | exact Look.arg0 | apply Look.args | exact Look.func)) (allLook_cons (by repeat (first | exact Look.here | apply Look.there (hne := rfl) | exact Look.const | apply Look.mix rfl | exact Look.arg0 | apply Look.args | exact Look.func)) allLook_nil)), rfl, by omega⟩ ?_
  rintro i _ _ ⟨⟨u, rfl⟩, rfl, hi⟩; dsimp only [setL]
  refine JC.rs ?_
  refine Seq.p rfl Ev.lt ?_
  refine Seq.nil ?_
  refine JC.seq ?_
  first | refine JC.c (ht := fun c9 => ?_) (hf := fun c9 => ?_) | refine JC.cb (ht := fun c9 => ?_) (hf := fun c9 => ?_)
  · -- then_t9
    have hi2 : i < l.length := by omega
    have hg := isBytes_get hB hi2
    have hs := sumB_range (l.take i)
    have hsn := sumB_snoc hi2
    refine JC.skip ?_
    refine JC.seq ?_
    refine JC.blk ?_
    refine JC.rs ?_
    refine Seq.p rfl (Ev.iaN sl.sl_uint8 (hr := hr.r)) ?_
    refine Seq.p rfl (Ev.ldE1 sc.uint8 (hr := hr.r)) ?_
    refine Seq.p rfl Ev.assign ?_
    refine Seq.nil ?_
    refine JC.reg ?_
    refine Seq.p rfl Ev.move ?_
    refine Seq.p rfl Ev.move ?_
    refine Seq.p rfl Ev.addW ?_
    refine Seq.p rfl Ev.assign ?_
    refine Seq.nil ?_
    refine JC.reg ?_
    refine Seq.p rfl (by first | exact Ev.inc | exact Ev.add) ?_
    refine Seq.p rfl Ev.move ?_
    refine Seq.nil ?_
    exact ⟨i + 1, _, Part.refl _, ⟨Has.mk (by repeat (first | refine Off.upd ?_ rfl | exact Off.mix | refine Off.mix2 ?_ rfl | exact Off.refl)) (allLook_cons (look_int (by repeat (first | exact Look.here | apply Look.there (hne := rfl) | exact Look.const | apply Look.mix rfl | exact Look.arg0 | apply Look.args | exact Look.func)) (by rw [hsn]; first | rfl | rw [wrap_u8'])) (allLook_cons (by repeat (first | exact Look.here | apply Look.there (hne := rfl) | exact Look.const | apply Look.mix rfl | exact Look.arg0 | apply Look.args | exact Look.func)) allLook_nil)), rfl, by omega⟩, by omega⟩
  · -- else_t9
    obtain rfl : i = l.length := by omega
    have hs := sumB_range (l.take l.length)
    refine JC.exit ?_ -- 0
    refine JC.rs ?_
    refine Seq.p rfl Ev.move ?_
    refine Seq.p rfl (Ev.conv64 it.uint8 it.int) ?_
    refine Seq.p rfl Ev.assign ?_
    refine Seq.nil ?_
    refine JC.ret ?_
    show retQ _ _ _ _ _ _ _ _
    refine ret1 (hp := Part.nil _) (hpost := ?_)
    rw [List.take_length]
def alnum (c : Int) : Bool := (decide (65 ≤ c) && decide (c ≤ 90)) || (decide (97 ≤ c) && decide (c ≤ 122)) || (decide (48 ≤ c) && decide (c ≤ 57))
def kindB (s : ByteArray) : Bool := (decide (s.size = 1) || decide (s.size = 2)) && (bytesOf s).all alnum
def printB (c : Int) : Bool := decide (32 ≤ c) && decide (c ≤ 126)
def valueB (s : ByteArray) : Bool := decide (1 ≤ s.size) && (bytesOf s).all printB
def tagB (n : Int) : Bool := decide (1 ≤ n) && decide (n ≤ 9999) && decide (n ≠ 8) && decide (n ≠ 9) && decide (n ≠ 10) && decide (n ≠ 35)
theorem bytesOf_get {s : ByteArray} {i : Nat} (h : i < (bytesOf s).length) : (bytesOf s)[i] = bAt s i := by
  have h2 : i < s.data.toList.length := by rw [bytesOf_length] at h; simpa using h
  have e : (bytesOf s)[i]? = some (bAt s i) := by
    unfold bytesOf bAt
    rw [List.getElem?_map, List.getElem?_eq_getElem h2]
    rfl
  rw [List.getElem?_eq_getElem h] at e
  exact Option.some.inj e
theorem bytesOf_all {s : ByteArray} {p : Int → Bool} : (bytesOf s).all p = true ↔ ∀ i < s.size, p (bAt s i) = true := by
  have hl : (bytesOf s).length = s.size := bytesOf_length s
  rw [List.all_eq_true]
  constructor
  · intro h i hi
    rw [← bytesOf_get (s := s) (i := i) (by omega)]
    exact h _ (List.getElem_mem _)
  · intro h x hx
    obtain ⟨i, hi, rfl⟩ := List.getElem_of_mem hx
    rw [bytesOf_get hi]
    exact h i (by omega)
theorem bytesOf_notall {s : ByteArray} {p : Int → Bool} {i : Nat} (hi : i < s.size) (h : p (bAt s i) = false) : (bytesOf s).all p = false := by
  cases ha : (bytesOf s).all p with
  | false => rfl
  | true => rw [bytesOf_all.1 ha i hi] at h; cases h
set_option maxHeartbeats 1000000 in
set_option maxRecDepth 100000 in
theorem textIsValue {w : World} {s : ByteArray} (hsz : s.size ≤ 281474976710656) : Spec Go.Proofs.Tryz.prog 90 #[.string s] w [] (fun u _ => u = .bool (valueB s)) := by
  refine Spec.enter (fn := Go.Proofs.Tryz.f90) (n := 23) [.string s] Go.Proofs.Tryz.func90 (by kernel_rfl) rfl Go.Proofs.Tryz.ntmps90 Go.Proofs.Tryz.results90 rfl (Own.nil _) ?_
  refine JC.rs ?_
  refine Seq.p rfl Ev.assign ?_
  refine Seq.nil ?_
  refine JC.seq ?_
  refine JC.rs ?_
  refine Seq.p rfl Ev.move ?_
  refine Seq.p rfl (Ev.lenStr st.string) ?_
  refine Seq.p rfl Ev.move ?_
  refine Seq.nil ?_
  refine JC.blk ?_
  refine JC.loop (α := Nat) (I := fun i e1 H1 => Has [2, 3, 6, 7, 8, 9, 10, 11, 12, 13, 14, 15, 16, 17, 18, 19] [(6, .int .i64 (i : Int))] _ e1 ∧ H1 = _ ∧ i ≤ s.size ∧ ∀ j < i, printB (bAt s j) = true) (μ := fun i => s.size - i) 0 ⟨Has.mk Off.refl (allLook_cons (by repeat (first | exact Look.here | apply Look.there (hne := rfl) | exact Look.const | apply Look.mix rfl | exact Look.arg0 | apply Look.args | exact Look.func)) allLook_nil), rfl, by omega, by omega⟩ ?_
  rintro i _ _ ⟨⟨u, rfl⟩, rfl, hi, hno⟩; dsimp only [setL]
  refine JC.rs ?_
  refine Seq.p rfl Ev.lt ?_
  refine Seq.nil ?_
  refine JC.seq ?_
  first | refine JC.c (ht := fun c7 => ?_) (hf := fun c7 => ?_) | refine JC.cb (ht := fun c7 => ?_) (hf := fun c7 => ?_)
  · -- then_t7
    have hi2 : i < s.size := by omega
    refine JC.skip ?_
    refine JC.seq ?_
    refine JC.blk ?_
    refine JC.rs ?_
    refine Seq.p rfl Ev.move ?_
    refine Seq.p rfl Ev.assign ?_
    refine Seq.nil ?_
    refine JC.rs ?_
    refine Seq.p rfl Ev.move ?_
    refine Seq.p rfl Ev.move ?_
    refine Seq.p rfl (Ev.indexStr st.string) ?_
    refine Seq.p rfl Ev.lt ?_
    refine Seq.p rfl Ev.move ?_
    refine Seq.orG (D := [13, 14, 15, 16, 17, 18]) (d := 13) (t := 18) (k := 5) (hn := fun h13 => ?_) (hx := ?_)
    · repeat (first | refine Seq.gn rfl rfl rfl rfl ?_ | refine Seq.gu rfl rfl rfl ?_)
      refine Seq.p rfl Ev.pickT ?_
      exact Seq.nil ⟨rfl, (by repeat (first | with_reducible exact Off.refl | refine Off.upd ?_ rfl | exact Off.mix | refine Off.mix2 ?_ rfl)), Look.here⟩
    apply Exists.intro
    refine ⟨fun h13 => ?_, fun u18 => ?_⟩
    · try simp only [decide_eq_true_eq, decide_eq_false_iff_not, Bool.and_eq_true, Bool.or_eq_true, Bool.not_eq_true', Bool.not_eq_false', Bool.or_eq_false_iff, Bool.and_eq_false_imp] at h13
      refine Seq.gy rfl rfl rfl ?_
      refine Seq.p rfl Ev.move ?_
      refine Seq.gy rfl rfl rfl ?_
      refine Seq.p rfl Ev.move ?_
      refine Seq.gy rfl rfl rfl ?_
      refine Seq.p rfl (Ev.indexStr st.string) ?_
      refine Seq.gy rfl rfl rfl ?_
      refine Seq.p rfl Ev.gt ?_
      refine Seq.p rfl Ev.pickF ?_
      exact Seq.nil ⟨rfl, (by repeat (first | with_reducible exact Off.refl | refine Off.upd ?_ rfl | exact Off.mix | refine Off.mix2 ?_ rfl)), Look.here⟩
    refine Seq.nil ?_
    first | refine JC.c (ht := fun c18 => ?_) (hf := fun c18 => ?_) | refine JC.cb (ht := fun c18 => ?_) (hf := fun c18 => ?_)
    · -- then_t18
      refine JC.rs ?_
      refine Seq.p rfl Ev.assign ?_
      refine Seq.nil ?_
      refine JC.ret ?_
      show retQ _ _ _ _ _ _ _ _
      refine ret1 (hp := Part.nil _) (hpost := ?_)
      have : printB (bAt s i) = false := by simp only [Int.toNat_natCast] at c18; unfold printB; simp only [Bool.or_eq_false_iff, Bool.and_eq_false_iff, Bool.and_eq_true, Bool.or_eq_true, decide_eq_true_eq, decide_eq_false_iff_not] at c18 ⊢; omega
      unfold valueB
      rw [bytesOf_notall hi2 this, Bool.and_false]
    · -- else_t18
      refine JC.skip ?_
      refine JC.reg ?_
      refine Seq.p rfl (by first | exact Ev.inc | exact Ev.add) ?_
      refine Seq.p rfl Ev.move ?_
      refine Seq.nil ?_
      have hok : printB (bAt s i) = true := by simp only [Int.toNat_natCast] at c18; unfold printB; simp only [Bool.or_eq_false_iff, Bool.and_eq_false_iff, Bool.and_eq_true, Bool.or_eq_true, decide_eq_true_eq, decide_eq_false_iff_not] at c18 ⊢; omega
      refine ⟨i + 1, _, Part.refl _, ⟨Has.mk (by repeat (first | refine Off.upd ?_ rfl | exact Off.mix | refine Off.mix2 ?_ rfl | exact Off.refl)) (allLook_cons (by repeat (first | exact Look.here | apply Look.there (hne := rfl) | exact Look.const | apply Look.mix rfl | exact Look.arg0 | apply Look.args | exact Look.func)) allLook_nil), rfl, by omega, fun j hj => ?_⟩, by omega⟩
      by_cases h : j = i
      · rw [h]; exact hok
      · exact hno j (by omega)
  · -- else_t7
    refine JC.exit ?_ -- 0
    refine JC.rs ?_
    refine Seq.p rfl Ev.move ?_
    refine Seq.p rfl (Ev.lenStr st.string) ?_
    refine Seq.p rfl Ev.gt ?_
    refine Seq.p rfl Ev.assign ?_
    refine Seq.nil ?_
    refine JC.ret ?_
    show retQ _ _ _ _ _ _ _ _
    refine ret1 (hp := Part.nil _) (hpost := ?_)
    have ha : (bytesOf s).all printB = true := bytesOf_all.2 fun j hj => hno j (by omega)
    unfold valueB
    rw [ha, Bool.and_true]
    congr 1
    rw [decide_eq_decide]
    omega
def thereB (xs : List Tg) (n : Int) : Bool := xs.any fun t => decide (t.tag = n)
end Go.Rx
/- From the reading of a call's arguments to bytes. -/
namespace Go.Rx
open Go Go.RowKit
set_option linter.unusedVariables false
end Go.Rx
namespace Go.Rx
open Go Go.RowKit
set_option linter.unusedVariables false
set_option linter.unusedSimpArgs false
structure Input where
  kind : Int
  ckind : Int
  id : Int
  target : Int
  member : Int
  side : Int
  type : Int
  price : Int
  qty : Int
  peak : Int
  engine : Int
deriving DecidableEq, Inhabited
def Input.enc (i : Input) : List Value := [.int .i64 i.kind, .int .i64 i.ckind, .int .u64 i.id, .int .u64 i.target, .int .u32 i.member, .int .i64 i.side, .int .i64 i.type, .int .i64 i.price, .int .u64 i.qty, .int .u64 i.peak, .int .i64 i.engine]
structure Fld where
  tag : Int
  num : Int
  fits : Bool
deriving DecidableEq, Inhabited
def Fld.enc (f : Fld) : List Value := [.int .i64 f.tag, .int .u64 f.num, .bool f.fits]
structure RF where
  tag : Int
  most : Int
  word : Int
  shift : Int
deriving DecidableEq, Inhabited
def RF.enc (f : RF) : List Value := [.int .i64 f.tag, .int .u64 f.most, .int .i64 f.word, .int .i64 f.shift]
def wholeF (t n : Int) : Fld := ⟨t, n, true⟩
def upToF (t n m : Int) : Fld := ⟨t, n % 18446744073709551616, decide (0 ≤ n) && decide (n ≤ m)⟩
def s64 (n : Int) : Int := IntKind.i64.wrap n
def inputF (k : Int) (ms : List (Int × Int)) : Input :=
  if k = 4 then ⟨2, 0, 0, 0, 0, 0, 0, 0, 0, 0, s64 (iget ms 9001)⟩
  else ⟨1, s64 k, iget ms 11, iget ms 41, iget ms 1 % 4294967296, s64 (iget ms 54), s64 (iget ms 40), s64 (iget ms 44), iget ms 38, iget ms 210, 0⟩
def nameF (i : Input) : Int := if i.kind = 2 then 4 else if i.kind = 1 ∧ 1 ≤ i.ckind ∧ i.ckind ≤ 3 then i.ckind else 0
def inValF (i : Input) (t : Int) : Int × Bool :=
  if t = 11 then (i.id, true) else if t = 41 then (i.target, true) else if t = 1 then (i.member % 18446744073709551616, true) else if t = 38 then (i.qty, true) else if t = 210 then (i.peak, true)
  else
    let n := if t = 54 then i.side else if t = 40 then i.type else if t = 44 then i.price else if t = 9001 then i.engine else 0
    (n % 18446744073709551616, decide (0 ≤ n))
def withF (i : Input) (t n : Int) : Input :=
  if t = 11 then { i with id := n } else if t = 41 then { i with target := n } else if t = 1 then { i with member := n % 4294967296 } else if t = 38 then { i with qty := n } else if t = 210 then { i with peak := n }
  else if t = 54 then { i with side := s64 n } else if t = 40 then { i with type := s64 n } else if t = 44 then { i with price := s64 n } else if t = 9001 then { i with engine := s64 n } else i
def bareF (k : Int) : Input := if k = 4 then ⟨2, 0, 0, 0, 0, 0, 0, 0, 0, 0, 0⟩ else ⟨1, k, 0, 0, 0, 0, 0, 0, 0, 0, 0⟩
theorem msgWhole {w : World} {t n : Int} : Spec Go.Proofs.Tryz.prog 65 #[.int .i64 t, .int .u64 n] w [] (fun u _ => u = .agg (wholeF t n).enc.toArray) := by
  refine Spec.enter (fn := Go.Proofs.Tryz.f65) (n := 8) [.int .i64 t, .int .u64 n] Go.Proofs.Tryz.func65 (by kernel_rfl) rfl Go.Proofs.Tryz.ntmps65 Go.Proofs.Tryz.results65 rfl (Own.nil _) ?_
  refine JC.rs ?_
  refine Seq.alloc (cs := [_, _, _]) (hz := z.message_field) (k := ?_); intro b4
  refine Seq.nil ?_
  refine JC.rs ?_
  refine Seq.p rfl Ev.move ?_
  refine Seq.p rfl Ev.move ?_
  refine Seq.p rfl (Ev.buildN [_, _, _] pl.message_field z.message_field) ?_
  refine Seq.storeN [_, _, _] sz.message_field (k := ?_)
  refine Seq.nil ?_
  refine JC.ret ?_
  show retQ _ _ _ _ _ _ _ _
  refine retB1 ag.message_field (hp := Part.nil _) (hpost := ?_)
  rfl
theorem msgUpTo {w : World} {t n m : Int} : Spec Go.Proofs.Tryz.prog 66 #[.int .i64 t, .int .i64 n, .int .i64 m] w [] (fun u _ => u = .agg (upToF t n m).enc.toArray) := by
  refine Spec.enter (fn := Go.Proofs.Tryz.f66) (n := 18) [.int .i64 t, .int .i64 n, .int .i64 m] Go.Proofs.Tryz.func66 (by kernel_rfl) rfl Go.Proofs.Tryz.ntmps66 Go.Proofs.Tryz.results66 rfl (Own.nil _) ?_
  refine JC.rs ?_
  refine Seq.alloc (cs := [_, _, _]) (hz := z.message_field) (k := ?_); intro b6
  refine Seq.nil ?_
  refine JC.rs ?_
  refine Seq.p rfl Ev.move ?_
  refine Seq.p rfl Ev.move ?_
  refine Seq.p rfl (Ev.convU64W it.int it.uint64) ?_
  refine Seq.p rfl Ev.move ?_
  refine Seq.p rfl Ev.ge ?_
  refine Seq.p rfl Ev.move ?_
  refine Seq.andG (D := [12, 13, 14, 15, 16]) (d := 12) (t := 16) (k := 4) (hn := fun h12 => ?_) (hx := ?_)
  · repeat (first | refine Seq.gn rfl rfl rfl rfl ?_ | refine Seq.gu rfl rfl rfl ?_)
    refine Seq.p rfl Ev.pickF ?_
    exact Seq.nil ⟨rfl, (by repeat (first | with_reducible exact Off.refl | refine Off.upd ?_ rfl | exact Off.mix | refine Off.mix2 ?_ rfl)), Look.here⟩
  apply Exists.intro
  refine ⟨fun h12 => ?_, fun u16 => ?_⟩
  · try simp only [decide_eq_true_eq, decide_eq_false_iff_not, Bool.and_eq_true, Bool.or_eq_true, Bool.not_eq_true', Bool.not_eq_false', Bool.or_eq_false_iff, Bool.and_eq_false_imp] at h12
    refine Seq.gy rfl rfl rfl ?_
    refine Seq.p rfl Ev.move ?_
    refine Seq.gy rfl rfl rfl ?_
    refine Seq.p rfl Ev.move ?_
    refine Seq.gy rfl rfl rfl ?_
    refine Seq.p rfl Ev.le ?_
    refine Seq.p rfl Ev.pickT ?_
    exact Seq.nil ⟨rfl, (by repeat (first | with_reducible exact Off.refl | refine Off.upd ?_ rfl | exact Off.mix | refine Off.mix2 ?_ rfl)), Look.here⟩
  refine Seq.p rfl (Ev.buildN [_, _, _] pl.message_field z.message_field) ?_
  refine Seq.storeN [_, _, _] sz.message_field (k := ?_)
  refine Seq.nil ?_
  refine JC.ret ?_
  show retQ _ _ _ _ _ _ _ _
  refine retB1 ag.message_field (hp := Part.nil _) (hpost := ?_)
  rfl
set_option maxHeartbeats 1000000 in
theorem msgInputOf {w : World} {k : Int} {v : Value} {ms : List (Int × Int)} (hm : RMp .i64 .u64 w [] v ms) : Spec Go.Proofs.Tryz.prog 21 #[.int .u8 k, v] w [] (fun u _ => u = .agg (inputF k ms).enc.toArray) := by
  refine Spec.enter (fn := Go.Proofs.Tryz.f21) (n := 35) [.int .u8 k, v] Go.Proofs.Tryz.func21 (by kernel_rfl) rfl Go.Proofs.Tryz.ntmps21 Go.Proofs.Tryz.results21 rfl (Own.nil _) ?_
  refine JC.rs ?_
  refine Seq.alloc (cs := [_, _, _, _, _, _, _, _, _, _, _]) (hz := z.api_Input) (k := ?_); intro b4
  refine Seq.nil ?_
  refine JC.seq ?_
  refine JC.rs ?_
  refine Seq.p rfl Ev.move ?_
  refine Seq.p rfl Ev.eq ?_
  refine Seq.nil ?_
  first | refine JC.c (ht := fun c6 => ?_) (hf := fun c6 => ?_) | refine JC.cb (ht := fun c6 => ?_) (hf := fun c6 => ?_)
  · -- then_t6
    refine JC.rs ?_
    refine Seq.p rfl Ev.move ?_
    refine Seq.p rfl (Ev.mapI mp.m_int_uint64 z.uint64 hm.r) ?_
    refine Seq.p rfl (Ev.convW it.uint64 it.int) ?_
    refine Seq.p rfl (Ev.buildN [_, _, _, _, _, _, _, _, _, _, _] pl.api_Input z.api_Input) ?_
    refine Seq.storeN [_, _, _, _, _, _, _, _, _, _, _] sz.api_Input (k := ?_)
    refine Seq.nil ?_
    refine JC.ret ?_
    show retQ _ _ _ _ _ _ _ _
    refine retB1 ag.api_Input (hp := Part.nil _) (hpost := ?_)
    rw [inputF, if_pos c6]
    rfl
  · -- else_t6
    refine JC.skip ?_
    refine JC.rs ?_
    refine Seq.p rfl Ev.move ?_
    refine Seq.p rfl (Ev.convW it.uint8 it.int) ?_
    refine Seq.p rfl Ev.move ?_
    refine Seq.p rfl (Ev.mapI mp.m_int_uint64 z.uint64 hm.r) ?_
    refine Seq.p rfl Ev.move ?_
    refine Seq.p rfl (Ev.mapI mp.m_int_uint64 z.uint64 hm.r) ?_
    refine Seq.p rfl Ev.move ?_
    refine Seq.p rfl (Ev.mapI mp.m_int_uint64 z.uint64 hm.r) ?_
    refine Seq.p rfl (Ev.convU32W it.uint64 it.uint32) ?_
    refine Seq.p rfl Ev.move ?_
    refine Seq.p rfl (Ev.mapI mp.m_int_uint64 z.uint64 hm.r) ?_
    refine Seq.p rfl (Ev.convW it.uint64 it.int) ?_
    refine Seq.p rfl Ev.move ?_
    refine Seq.p rfl (Ev.mapI mp.m_int_uint64 z.uint64 hm.r) ?_
    refine Seq.p rfl (Ev.convW it.uint64 it.int) ?_
    refine Seq.p rfl Ev.move ?_
    refine Seq.p rfl (Ev.mapI mp.m_int_uint64 z.uint64 hm.r) ?_
    refine Seq.p rfl (Ev.convW it.uint64 it.int) ?_
    refine Seq.p rfl Ev.move ?_
    refine Seq.p rfl (Ev.mapI mp.m_int_uint64 z.uint64 hm.r) ?_
    refine Seq.p rfl Ev.move ?_
    refine Seq.p rfl (Ev.mapI mp.m_int_uint64 z.uint64 hm.r) ?_
    refine Seq.p rfl (Ev.buildN [_, _, _, _, _, _, _, _, _] pl.api_Command z.api_Command) ?_
    refine Seq.p rfl (Ev.buildN [_, _, _, _, _, _, _, _, _, _, _] pl.api_Input z.api_Input) ?_
    refine Seq.storeN [_, _, _, _, _, _, _, _, _, _, _] sz.api_Input (k := ?_)
    refine Seq.nil ?_
    refine JC.ret ?_
    show retQ _ _ _ _ _ _ _ _
    refine retB1 ag.api_Input (hp := Part.nil _) (hpost := ?_)
    rw [inputF, if_neg c6]
    rfl
end Go.Rx
namespace Go.Rx
open Go Go.RowKit
set_option linter.unusedVariables false
set_option linter.unusedSimpArgs false
def fieldsF (i : Input) : Option (Int × ByteArray × List Fld) :=
  if i.kind = 2 then some (4, ⟨#[85, 69]⟩, [upToF 9001 i.engine 255])
  else if i.kind ≠ 1 then none
  else if i.ckind = 1 then some (1, ⟨#[68]⟩, [wholeF 11 i.id, wholeF 1 (i.member % 18446744073709551616), upToF 54 i.side 255, upToF 40 i.type 255, upToF 44 i.price 4294967295, wholeF 38 i.qty, wholeF 210 i.peak])
  else if i.ckind = 2 then some (2, ⟨#[70]⟩, [wholeF 41 i.target])
  else if i.ckind = 3 then some (3, ⟨#[71]⟩, [wholeF 41 i.target, wholeF 11 i.id, upToF 44 i.price 4294967295, wholeF 38 i.qty, wholeF 210 i.peak])
  else none
def FieldsPost (o : Option (Int × ByteArray × List Fld)) (u : Value) (N : List Chunk) : Prop :=
  match o with
  | none => u = .tuple #[.int .u8 0, .string ⟨#[]⟩, .slice none 0 0, .bool false]
  | some (k, s, fs) => ∃ b, u = .tuple #[.int .u8 k, .string s, .slice (some ⟨b, 0, none⟩) fs.length fs.length, .bool true] ∧ N = [.box b 119 (fs.flatMap Fld.enc)]
set_option maxHeartbeats 4000000 in
set_option maxRecDepth 100000 in
theorem msgFieldsOf {w : World} {i : Input} : Spec Go.Proofs.Tryz.prog 54 #[.agg i.enc.toArray] w [] (FieldsPost (fieldsF i)) := by
  refine Spec.enter (fn := Go.Proofs.Tryz.f54) (n := 76) [.agg i.enc.toArray] Go.Proofs.Tryz.func54 (by kernel_rfl) rfl Go.Proofs.Tryz.ntmps54 Go.Proofs.Tryz.results54 rfl (Own.nil _) ?_
  refine JC.rs ?_
  refine Seq.box (cs := [_, _, _, _, _, _, _, _, _, _, _]) (k := ?_); intro b1
  refine Seq.p rfl Ev.assign ?_
  refine Seq.p rfl Ev.assign ?_
  refine Seq.p rfl Ev.assign ?_
  refine Seq.p rfl Ev.assign ?_
  refine Seq.nil ?_
  refine JC.rs ?_
  refine Seq.p rfl (Ev.faB fd.api_Input_1) ?_
  refine Seq.p rfl (Ev.ldBPN [_, _, _, _, _, _, _, _, _] ag.api_Command) ?_
  refine Seq.alloc (cs := [_, _, _, _, _, _, _, _, _]) (hz := z.api_Command) (k := ?_); intro b6
  refine Seq.storeN [_, _, _, _, _, _, _, _, _] sz.api_Command (k := ?_)
  refine Seq.nil ?_
  refine JC.seq ?_
  refine JC.blk ?_
  refine JC.rs ?_
  refine Seq.p rfl (Ev.faB fd.api_Input_0) ?_
  refine Seq.p rfl (Ev.ldB sc.int) ?_
  refine Seq.p rfl Ev.eq ?_
  refine Seq.p rfl Ev.assign ?_
  refine Seq.nil ?_
  first | refine JC.c (ht := fun c9 => ?_) (hf := fun c9 => ?_) | refine JC.cb (ht := fun c9 => ?_) (hf := fun c9 => ?_)
  · -- then_t9
    refine JC.rs ?_
    refine Seq.p rfl (Ev.faB fd.api_Input_2) ?_
    refine Seq.p rfl (Ev.ldB sc.int) ?_
    refine Seq.callP rfl (fun w hw => msgUpTo) ?_
    refine Seq.buildSlN [_, _, _] (hsl := sl.sl_message_field) (hz := z.message_field) (k := ?_); intro b16
    refine Seq.p rfl Ev.assign ?_
    refine Seq.p rfl Ev.assign ?_
    refine Seq.p rfl Ev.assign ?_
    refine Seq.p rfl Ev.assign ?_
    refine Seq.nil ?_
    refine JC.ret ?_
    show retQ _ _ _ _ _ _ _ _
    refine retI (RVs.t (hs := (RVs.t (hs := (RVs.t (hs := (RVs.t (hs := RVs.nil)))))))) (Part.here (Part.nil _)) ?_
    have hF : fieldsF i = some (4, ⟨#[85, 69]⟩, [upToF 9001 i.engine 255]) := by simp only [fieldsF, *, if_true, if_false]
    rw [hF]
    exact ⟨_, rfl, rfl⟩
  · -- else_t9
    refine JC.rs ?_
    refine Seq.p rfl (Ev.faB fd.api_Input_0) ?_
    refine Seq.p rfl (Ev.ldB sc.int) ?_
    refine Seq.p rfl Ev.ne ?_
    refine Seq.p rfl Ev.assign ?_
    refine Seq.nil ?_
    first | refine JC.c (ht := fun c17 => ?_) (hf := fun c17 => ?_) | refine JC.cb (ht := fun c17 => ?_) (hf := fun c17 => ?_)
    · -- then_t17
      refine JC.skip ?_
      refine JC.rs ?_
      refine Seq.p rfl Ev.assign ?_
      refine Seq.p rfl Ev.assign ?_
      refine Seq.p rfl Ev.assign ?_
      refine Seq.p rfl Ev.assign ?_
      refine Seq.nil ?_
      refine JC.ret ?_
      show retQ _ _ _ _ _ _ _ _
      refine retI (RVs.t (hs := (RVs.t (hs := (RVs.t (hs := (RVs.t (hs := RVs.nil)))))))) (Part.nil _) ?_
      have hF : fieldsF i = none := by simp only [fieldsF, *, if_true, if_false, ne_eq, not_false_eq_true]
      rw [hF]
      rfl
    · -- else_t17
      refine JC.rs ?_
      refine Seq.p rfl (Ev.faB fd.api_Command_0) ?_
      refine Seq.p rfl (Ev.ldB sc.int) ?_
      refine Seq.p rfl Ev.eq ?_
      refine Seq.p rfl Ev.assign ?_
      refine Seq.nil ?_
      first | refine JC.c (ht := fun c21 => ?_) (hf := fun c21 => ?_) | refine JC.cb (ht := fun c21 => ?_) (hf := fun c21 => ?_)
      · -- then_t21
        refine JC.as mixed ?_
        refine Any.p 0 rfl (by kernel_rfl) (by kernel_rfl) (by kernel_rfl) rfl (Ev.faB fd.api_Command_1) ?_
        refine Any.p 1 rfl (by kernel_rfl) (by kernel_rfl) (by kernel_rfl) rfl (Ev.ldB sc.uint64) ?_
        refine Any.call 2 rfl (by kernel_rfl) (by kernel_rfl) (by kernel_rfl) rfl (fun w hw => msgWhole) ?_
        refine Any.p 3 rfl (by kernel_rfl) (by kernel_rfl) (by kernel_rfl) rfl (Ev.faB fd.api_Command_3) ?_
        refine Any.p 4 rfl (by kernel_rfl) (by kernel_rfl) (by kernel_rfl) rfl (Ev.ldB sc.uint32) ?_
        refine Any.p 5 rfl (by kernel_rfl) (by kernel_rfl) (by kernel_rfl) rfl (Ev.convU64W it.uint32 it.uint64) ?_
        refine Any.call 6 rfl (by kernel_rfl) (by kernel_rfl) (by kernel_rfl) rfl (fun w hw => msgWhole) ?_
        refine Any.p 7 rfl (by kernel_rfl) (by kernel_rfl) (by kernel_rfl) rfl (Ev.faB fd.api_Command_4) ?_
        refine Any.p 8 rfl (by kernel_rfl) (by kernel_rfl) (by kernel_rfl) rfl (Ev.ldB sc.int) ?_
        refine Any.call 9 rfl (by kernel_rfl) (by kernel_rfl) (by kernel_rfl) rfl (fun w hw => msgUpTo) ?_
        refine Any.p 10 rfl (by kernel_rfl) (by kernel_rfl) (by kernel_rfl) rfl (Ev.faB fd.api_Command_5) ?_
        refine Any.p 11 rfl (by kernel_rfl) (by kernel_rfl) (by kernel_rfl) rfl (Ev.ldB sc.int) ?_
        refine Any.call 12 rfl (by kernel_rfl) (by kernel_rfl) (by kernel_rfl) rfl (fun w hw => msgUpTo) ?_
        refine Any.p 13 rfl (by kernel_rfl) (by kernel_rfl) (by kernel_rfl) rfl (Ev.faB fd.api_Command_6) ?_
        refine Any.p 14 rfl (by kernel_rfl) (by kernel_rfl) (by kernel_rfl) rfl (Ev.ldB sc.int) ?_
        refine Any.call 15 rfl (by kernel_rfl) (by kernel_rfl) (by kernel_rfl) rfl (fun w hw => msgUpTo) ?_
        refine Any.p 16 rfl (by kernel_rfl) (by kernel_rfl) (by kernel_rfl) rfl (Ev.faB fd.api_Command_7) ?_
        refine Any.p 17 rfl (by kernel_rfl) (by kernel_rfl) (by kernel_rfl) rfl (Ev.ldB sc.uint64) ?_
        refine Any.call 18 rfl (by kernel_rfl) (by kernel_rfl) (by kernel_rfl) rfl (fun w hw => msgWhole) ?_
        refine Any.p 19 rfl (by kernel_rfl) (by kernel_rfl) (by kernel_rfl) rfl (Ev.faB fd.api_Command_8) ?_
        refine Any.p 20 rfl (by kernel_rfl) (by kernel_rfl) (by kernel_rfl) rfl (Ev.ldB sc.uint64) ?_
        refine Any.call 21 rfl (by kernel_rfl) (by kernel_rfl) (by kernel_rfl) rfl (fun w hw => msgWhole) ?_
        refine Any.p 23 rfl (by kernel_rfl) (by kernel_rfl) (by kernel_rfl) rfl Ev.assign ?_
        refine Any.p 24 rfl (by kernel_rfl) (by kernel_rfl) (by kernel_rfl) rfl Ev.assign ?_
        refine Any.one 22 rfl (by kernel_rfl) ?_
        refine Seq.buildSlS [_, _, _, _, _, _, _, _, _, _, _, _, _, _, _, _, _, _, _, _, _] (hsl := sl.sl_message_field) (hz := z.message_field) (k := ?_); intro b47
        refine Seq.nil ⟨(by repeat (first | exact Part.refl _ | exact Part.nil _ | apply Part.here | apply Part.skip)), ?_⟩
        refine Any.p 25 rfl (by kernel_rfl) (by kernel_rfl) (by kernel_rfl) rfl Ev.assign ?_
        refine Any.p 26 rfl (by kernel_rfl) (by kernel_rfl) (by kernel_rfl) rfl Ev.assign ?_
        refine Any.done (by kernel_rfl) ?_
        refine JC.ret ?_
        show retQ _ _ _ _ _ _ _ _
        refine retI (RVs.t (hs := (RVs.t (hs := (RVs.t (hs := (RVs.t (hs := RVs.nil)))))))) (Part.here (Part.nil _)) ?_
        have hF : fieldsF i = some (1, ⟨#[68]⟩, [wholeF 11 i.id, wholeF 1 (i.member % 18446744073709551616), upToF 54 i.side 255, upToF 40 i.type 255, upToF 44 i.price 4294967295, wholeF 38 i.qty, wholeF 210 i.peak]) := by rw [fieldsF, if_neg c9, if_neg c17, if_pos c21]
        rw [hF]
        exact ⟨_, rfl, rfl⟩
      · -- else_t21
        refine JC.rs ?_
        refine Seq.p rfl (Ev.faB fd.api_Command_0) ?_
        refine Seq.p rfl (Ev.ldB sc.int) ?_
        refine Seq.p rfl Ev.eq ?_
        refine Seq.p rfl Ev.assign ?_
        refine Seq.nil ?_
        first | refine JC.c (ht := fun c48 => ?_) (hf := fun c48 => ?_) | refine JC.cb (ht := fun c48 => ?_) (hf := fun c48 => ?_)
        · -- then_t48
          refine JC.rs ?_
          refine Seq.p rfl (Ev.faB fd.api_Command_2) ?_
          refine Seq.p rfl (Ev.ldB sc.uint64) ?_
          refine Seq.callP rfl (fun w hw => msgWhole) ?_
          refine Seq.buildSlN [_, _, _] (hsl := sl.sl_message_field) (hz := z.message_field) (k := ?_); intro b55
          refine Seq.p rfl Ev.assign ?_
          refine Seq.p rfl Ev.assign ?_
          refine Seq.p rfl Ev.assign ?_
          refine Seq.p rfl Ev.assign ?_
          refine Seq.nil ?_
          refine JC.ret ?_
          show retQ _ _ _ _ _ _ _ _
          refine retI (RVs.t (hs := (RVs.t (hs := (RVs.t (hs := (RVs.t (hs := RVs.nil)))))))) (Part.here (Part.nil _)) ?_
          have hF : fieldsF i = some (2, ⟨#[70]⟩, [wholeF 41 i.target]) := by rw [fieldsF, if_neg c9, if_neg c17, if_neg c21, if_pos c48]
          rw [hF]
          exact ⟨_, rfl, rfl⟩
        · -- else_t48
          refine JC.rs ?_
          refine Seq.p rfl (Ev.faB fd.api_Command_0) ?_
          refine Seq.p rfl (Ev.ldB sc.int) ?_
          refine Seq.p rfl Ev.eq ?_
          refine Seq.p rfl Ev.assign ?_
          refine Seq.nil ?_
          first | refine JC.c (ht := fun c56 => ?_) (hf := fun c56 => ?_) | refine JC.cb (ht := fun c56 => ?_) (hf := fun c56 => ?_)
          · -- then_t56
            refine JC.as mixed ?_
            refine Any.p 0 rfl (by kernel_rfl) (by kernel_rfl) (by kernel_rfl) rfl (Ev.faB fd.api_Command_2) ?_
            refine Any.p 1 rfl (by kernel_rfl) (by kernel_rfl) (by kernel_rfl) rfl (Ev.ldB sc.uint64) ?_
            refine Any.call 2 rfl (by kernel_rfl) (by kernel_rfl) (by kernel_rfl) rfl (fun w hw => msgWhole) ?_
            refine Any.p 3 rfl (by kernel_rfl) (by kernel_rfl) (by kernel_rfl) rfl (Ev.faB fd.api_Command_1) ?_
            refine Any.p 4 rfl (by kernel_rfl) (by kernel_rfl) (by kernel_rfl) rfl (Ev.ldB sc.uint64) ?_
            refine Any.call 5 rfl (by kernel_rfl) (by kernel_rfl) (by kernel_rfl) rfl (fun w hw => msgWhole) ?_
            refine Any.p 6 rfl (by kernel_rfl) (by kernel_rfl) (by kernel_rfl) rfl (Ev.faB fd.api_Command_6) ?_
            refine Any.p 7 rfl (by kernel_rfl) (by kernel_rfl) (by kernel_rfl) rfl (Ev.ldB sc.int) ?_
            refine Any.call 8 rfl (by kernel_rfl) (by kernel_rfl) (by kernel_rfl) rfl (fun w hw => msgUpTo) ?_
            refine Any.p 9 rfl (by kernel_rfl) (by kernel_rfl) (by kernel_rfl) rfl (Ev.faB fd.api_Command_7) ?_
            refine Any.p 10 rfl (by kernel_rfl) (by kernel_rfl) (by kernel_rfl) rfl (Ev.ldB sc.uint64) ?_
            refine Any.call 11 rfl (by kernel_rfl) (by kernel_rfl) (by kernel_rfl) rfl (fun w hw => msgWhole) ?_
            refine Any.p 12 rfl (by kernel_rfl) (by kernel_rfl) (by kernel_rfl) rfl (Ev.faB fd.api_Command_8) ?_
            refine Any.p 13 rfl (by kernel_rfl) (by kernel_rfl) (by kernel_rfl) rfl (Ev.ldB sc.uint64) ?_
            refine Any.call 14 rfl (by kernel_rfl) (by kernel_rfl) (by kernel_rfl) rfl (fun w hw => msgWhole) ?_
            refine Any.p 16 rfl (by kernel_rfl) (by kernel_rfl) (by kernel_rfl) rfl Ev.assign ?_
            refine Any.p 17 rfl (by kernel_rfl) (by kernel_rfl) (by kernel_rfl) rfl Ev.assign ?_
            refine Any.one 15 rfl (by kernel_rfl) ?_
            refine Seq.buildSlS [_, _, _, _, _, _, _, _, _, _, _, _, _, _, _] (hsl := sl.sl_message_field) (hz := z.message_field) (k := ?_); intro b75
            refine Seq.nil ⟨(by repeat (first | exact Part.refl _ | exact Part.nil _ | apply Part.here | apply Part.skip)), ?_⟩
            refine Any.p 18 rfl (by kernel_rfl) (by kernel_rfl) (by kernel_rfl) rfl Ev.assign ?_
            refine Any.p 19 rfl (by kernel_rfl) (by kernel_rfl) (by kernel_rfl) rfl Ev.assign ?_
            refine Any.done (by kernel_rfl) ?_
            refine JC.ret ?_
            show retQ _ _ _ _ _ _ _ _
            refine retI (RVs.t (hs := (RVs.t (hs := (RVs.t (hs := (RVs.t (hs := RVs.nil)))))))) (Part.here (Part.nil _)) ?_
            have hF : fieldsF i = some (3, ⟨#[71]⟩, [wholeF 41 i.target, wholeF 11 i.id, upToF 44 i.price 4294967295, wholeF 38 i.qty, wholeF 210 i.peak]) := by rw [fieldsF, if_neg c9, if_neg c17, if_neg c21, if_neg c48, if_pos c56]
            rw [hF]
            exact ⟨_, rfl, rfl⟩
          · -- else_t56
            refine JC.skip ?_
            refine JC.rs ?_
            refine Seq.p rfl Ev.assign ?_
            refine Seq.p rfl Ev.assign ?_
            refine Seq.p rfl Ev.assign ?_
            refine Seq.p rfl Ev.assign ?_
            refine Seq.nil ?_
            refine JC.ret ?_
            show retQ _ _ _ _ _ _ _ _
            refine retI (RVs.t (hs := (RVs.t (hs := (RVs.t (hs := (RVs.t (hs := RVs.nil)))))))) (Part.nil _) ?_
            have hF : fieldsF i = none := by rw [fieldsF, if_neg c9, if_neg c17, if_neg c21, if_neg c48, if_neg c56]
            rw [hF]
            rfl
end Go.Rx
namespace Go.Rx
open Go Go.RowKit
set_option linter.unusedVariables false
set_option linter.unusedSimpArgs false
def numsF (fs : List Fld) : List (Int × Int) := fs.foldl (fun m f => iput m f.tag f.num) []
theorem numsF_snoc (fs : List Fld) (i : Nat) (h : i < fs.length) : numsF (fs.take (i + 1)) = iput (numsF (fs.take i)) fs[i]!.tag fs[i]!.num := by
  have : fs.take (i + 1) = fs.take i ++ [fs[i]!] := by
    rw [List.take_succ_eq_append_getElem h, getElem!_pos fs i h]
  rw [this]
  unfold numsF
  rw [List.foldl_append]
  rfl
def NumsPost (fs : List Fld) (u : Value) (N : List Chunk) : Prop :=
  if fs.all (·.fits) = true then ∃ b, u = .tuple #[.map (some b), .bool true] ∧ N = [.mi b .i64 .u64 (numsF fs)] else u = .tuple #[.map none, .bool false]
set_option maxHeartbeats 1000000 in
theorem msgNumbers {w : World} {v : Value} {fs : List Fld} (hs : RSl Fld.enc 3 w [] v fs) : Spec Go.Proofs.Tryz.prog 55 #[v] w [] (NumsPost fs) := by
  have hsm := hs.small
  refine Spec.enter (fn := Go.Proofs.Tryz.f55) (n := 24) [v] Go.Proofs.Tryz.func55 (by kernel_rfl) rfl Go.Proofs.Tryz.ntmps55 Go.Proofs.Tryz.results55 rfl (Own.nil _) ?_
  refine JC.rs ?_
  refine Seq.p rfl Ev.assign ?_
  refine Seq.p rfl Ev.assign ?_
  refine Seq.nil ?_
  refine JC.rs ?_
  refine Seq.mkMapI .i64 .u64 (k := ?_); intro b7
  refine Seq.p rfl Ev.assign ?_
  refine Seq.nil ?_
  refine JC.seq ?_
  refine JC.rs ?_
  refine Seq.p rfl Ev.move ?_
  refine Seq.p rfl (Ev.lenSl sl.sl_message_field (hr := hs.r)) ?_
  refine Seq.p rfl Ev.move ?_
  refine Seq.nil ?_
  refine JC.blk ?_
  refine JC.loop (α := Nat) (I := fun i e1 H1 => Has [2, 3, 6, 10, 11, 12, 13, 14, 15, 16, 17, 18, 19, 20, 21, 22] [(10, .int .i64 (i : Int))] _ e1 ∧ H1 = [.mi b7 .i64 .u64 (numsF (fs.take i))] ∧ i ≤ fs.length ∧ ∀ j, j < i → fs[j]!.fits = true) (μ := fun i => fs.length - i) 0 ⟨Has.mk Off.refl (allLook_cons (by repeat (first | exact Look.here | apply Look.there (hne := rfl) | exact Look.const | apply Look.mix rfl | exact Look.arg0 | apply Look.args | exact Look.func)) allLook_nil), rfl, by omega, by omega⟩ ?_
  rintro i _ _ ⟨⟨ui, rfl⟩, rfl, hi, hlt⟩; dsimp only [setL]
  refine JC.rs ?_
  refine Seq.p rfl Ev.lt ?_
  refine Seq.nil ?_
  refine JC.seq ?_
  first | refine JC.c (ht := fun c11 => ?_) (hf := fun c11 => ?_) | refine JC.cb (ht := fun c11 => ?_) (hf := fun c11 => ?_)
  · -- then_t11
    have hi2 : i < fs.length := by omega
    refine JC.skip ?_
    refine JC.seq ?_
    refine JC.blk ?_
    refine JC.rs ?_
    refine Seq.p rfl (Ev.iaN sl.sl_message_field (hr := hs.r)) ?_
    refine Seq.p rfl (Ev.ldEA ag.message_field (hr := hs.r)) ?_
    refine Seq.alloc (cs := [_, _, _]) (hz := z.message_field) (k := ?_); intro b6
    refine Seq.storeN [_, _, _] sz.message_field (k := ?_)
    refine Seq.nil ?_
    refine JC.seq ?_
    refine JC.rs ?_
    refine Seq.p rfl (Ev.faB fd.message_field_2) ?_
    refine Seq.p rfl (Ev.ldB sc.bool) ?_
    refine Seq.p rfl Ev.not ?_
    refine Seq.nil ?_
    have hi2 : i < fs.length := by omega
    first | refine JC.c (ht := fun c16 => ?_) (hf := fun c16 => ?_) | refine JC.cb (ht := fun c16 => ?_) (hf := fun c16 => ?_)
    · -- then_t16
      refine JC.rs ?_
      refine Seq.p rfl Ev.assign ?_
      refine Seq.p rfl Ev.assign ?_
      refine Seq.nil ?_
      refine JC.ret ?_
      show retQ _ _ _ _ _ _ _ _
      refine ret2 (hp := Part.nil _) (hpost := ?_)
      have hn : ¬ (fs.all (·.fits) = true) := by
        intro h
        have this : fs[i]!.fits = true := List.all_eq_true.1 h fs[i]! (by rw [getElem!_pos fs i hi2]; exact List.getElem_mem hi2)
        rw [this] at c16
        cases c16
      show NumsPost _ _ _
      rw [NumsPost, if_neg hn]
    · -- else_t16
      refine JC.skip ?_
      refine JC.reg ?_
      refine Seq.p rfl Ev.move ?_
      refine Seq.p rfl (Ev.faB fd.message_field_0) ?_
      refine Seq.p rfl (Ev.ldB sc.int) ?_
      refine Seq.p rfl (Ev.faB fd.message_field_1) ?_
      refine Seq.p rfl (Ev.ldB sc.uint64) ?_
      refine Seq.mapPutI mp.m_int_uint64 (kk' := ?_)
      refine Seq.nil ?_
      refine JC.reg ?_
      refine Seq.p rfl (by first | exact Ev.inc | exact Ev.add) ?_
      refine Seq.p rfl Ev.move ?_
      refine Seq.nil ?_
      refine ⟨i + 1, _, Part.skip (Part.refl _), ⟨Has.mk (by repeat (first | refine Off.upd ?_ rfl | exact Off.mix | refine Off.mix2 ?_ rfl | exact Off.refl)) (allLook_cons (by repeat (first | exact Look.here | apply Look.there (hne := rfl) | exact Look.const | apply Look.mix rfl | exact Look.arg0 | apply Look.args | exact Look.func)) allLook_nil), by rw [numsF_snoc fs i hi2]; rfl, by omega, ?_⟩, by omega⟩
      intro j hj
      by_cases h : j = i
      · subst h; simpa using c16
      · exact hlt j (by omega)
  · -- else_t11
    have hi2 : i = fs.length := by omega
    subst hi2
    refine JC.exit ?_ -- 0
    refine JC.rs ?_
    refine Seq.p rfl Ev.move ?_
    refine Seq.p rfl Ev.assign ?_
    refine Seq.p rfl Ev.assign ?_
    refine Seq.nil ?_
    refine JC.ret ?_
    show retQ _ _ _ _ _ _ _ _
    refine ret2 (hp := Part.refl _) (hpost := ?_)
    have hn : fs.all (·.fits) = true := by
      rw [List.all_eq_true]
      intro x hx
      obtain ⟨j, hj, rfl⟩ := List.getElem_of_mem hx
      have := hlt j hj
      rwa [getElem!_pos fs j hj] at this
    show NumsPost _ _ _
    rw [NumsPost, if_pos hn]
    exact ⟨b7, rfl, by rw [List.take_length]⟩
def toldE (i : Input) : Int := match fieldsF i with | none => 41 | some (k, s, fs) => if fs.all (·.fits) = true ∧ inputF k (numsF fs) = i then 0 else 40
theorem Input.eqL_enc (x y : Input) : eqL x.enc y.enc = decide (x = y) := by
  cases x; cases y
  simp [Input.enc, eqL, eqV, Bool.decide_and]
def ToldPost (i : Input) (u : Value) (N : List Chunk) : Prop :=
  if toldE i = 0 then ∃ k s fs b1 b2, fieldsF i = some (k, s, fs) ∧ u = .tuple #[.int .u8 k, .string s, .slice (some ⟨b1, 0, none⟩) fs.length fs.length, .map (some b2), .int .i64 0] ∧ N = [.mi b2 .i64 .u64 (numsF fs), .box b1 119 (fs.flatMap Fld.enc)]
  else u = .tuple #[.int .u8 0, .string ⟨#[]⟩, .slice none 0 0, .map none, .int .i64 (toldE i)]
theorem fieldsF_small {i : Input} {k : Int} {s : ByteArray} {fs : List Fld} (h : fieldsF i = some (k, s, fs)) : fs.length ≤ 7 := by
  unfold fieldsF at h
  repeat (first | (split at h) | (simp only [Option.some.injEq, Prod.mk.injEq] at h; obtain ⟨_, _, rfl⟩ := h; exact Nat.le_of_ble_eq_true rfl) | cases h)
set_option maxHeartbeats 2000000 in
theorem msgTold0 {w : World} {i : Input} (hF : fieldsF i = none) : Spec Go.Proofs.Tryz.prog 36 #[.agg i.enc.toArray] w [] (ToldPost i) := by
  have hE : toldE i = 41 := by unfold toldE; rw [hF]
  refine Spec.enter (fn := Go.Proofs.Tryz.f36) (n := 39) [.agg i.enc.toArray] Go.Proofs.Tryz.func36 (by kernel_rfl) rfl Go.Proofs.Tryz.ntmps36 Go.Proofs.Tryz.results36 rfl (Own.nil _) ?_
  refine JC.rs ?_
  refine Seq.box (cs := [_, _, _, _, _, _, _, _, _, _, _]) (k := ?_); intro b1
  refine Seq.p rfl Ev.assign ?_
  refine Seq.p rfl Ev.assign ?_
  refine Seq.p rfl Ev.assign ?_
  refine Seq.p rfl Ev.assign ?_
  refine Seq.p rfl Ev.assign ?_
  refine Seq.nil ?_
  refine JC.rs ?_
  refine Seq.p rfl (Ev.ldBA ag.api_Input) ?_
  refine Seq.call rfl (fun w hw => hF ▸ msgFieldsOf) (F := _) (by exact List.Perm.refl _) ?_
  rintro _ N rfl
  refine Seq.p rfl Ev.move ?_
  refine Seq.p rfl Ev.extract ?_
  refine Seq.p rfl Ev.extract ?_
  refine Seq.p rfl Ev.extract ?_
  refine Seq.p rfl Ev.extract ?_
  refine Seq.p rfl Ev.assign ?_
  refine Seq.p rfl Ev.assign ?_
  refine Seq.p rfl Ev.assign ?_
  refine Seq.p rfl Ev.assign ?_
  refine Seq.nil ?_
  refine JC.seq ?_
  refine JC.rs ?_
  refine Seq.p rfl Ev.move ?_
  refine Seq.p rfl Ev.not ?_
  refine Seq.nil ?_
  first | refine JC.c (ht := fun c20 => ?_) (hf := fun c20 => ?_) | refine JC.cb (ht := fun c20 => ?_) (hf := fun c20 => ?_)
  · -- then_t20
    refine JC.rs ?_
    refine Seq.p rfl Ev.assign ?_
    refine Seq.p rfl Ev.assign ?_
    refine Seq.p rfl Ev.assign ?_
    refine Seq.p rfl Ev.assign ?_
    refine Seq.p rfl Ev.assign ?_
    refine Seq.nil ?_
    refine JC.ret ?_
    show retQ _ _ _ _ _ _ _ _
    refine retI (RVs.t (hs := (RVs.t (hs := (RVs.t (hs := (RVs.t (hs := (RVs.t (hs := RVs.nil)))))))))) (Part.nil _) ?_
    show ToldPost _ _ _
    rw [ToldPost, if_neg (by rw [hE]; decide), hE]
    rfl
  · -- else_t20
    cases c20
set_option maxHeartbeats 2000000 in
theorem msgTold1 {w : World} {i : Input} {k : Int} {s : ByteArray} {fs : List Fld} (hF : fieldsF i = some (k, s, fs)) (hn : ¬ fs.all (·.fits) = true) : Spec Go.Proofs.Tryz.prog 36 #[.agg i.enc.toArray] w [] (ToldPost i) := by
  have hE : toldE i = 40 := by unfold toldE; rw [hF]; exact if_neg (fun h => hn h.1)
  have hsm := fieldsF_small hF
  refine Spec.enter (fn := Go.Proofs.Tryz.f36) (n := 39) [.agg i.enc.toArray] Go.Proofs.Tryz.func36 (by kernel_rfl) rfl Go.Proofs.Tryz.ntmps36 Go.Proofs.Tryz.results36 rfl (Own.nil _) ?_
  refine JC.rs ?_
  refine Seq.box (cs := [_, _, _, _, _, _, _, _, _, _, _]) (k := ?_); intro b1
  refine Seq.p rfl Ev.assign ?_
  refine Seq.p rfl Ev.assign ?_
  refine Seq.p rfl Ev.assign ?_
  refine Seq.p rfl Ev.assign ?_
  refine Seq.p rfl Ev.assign ?_
  refine Seq.nil ?_
  refine JC.rs ?_
  refine Seq.p rfl (Ev.ldBA ag.api_Input) ?_
  refine Seq.call rfl (fun w hw => hF ▸ msgFieldsOf) (F := _) (by exact List.Perm.refl _) ?_
  rintro _ _ ⟨bf, rfl, rfl⟩
  refine Seq.p rfl Ev.move ?_
  refine Seq.p rfl Ev.extract ?_
  refine Seq.p rfl Ev.extract ?_
  refine Seq.p rfl Ev.extract ?_
  refine Seq.p rfl Ev.extract ?_
  refine Seq.p rfl Ev.assign ?_
  refine Seq.p rfl Ev.assign ?_
  refine Seq.p rfl Ev.assign ?_
  refine Seq.p rfl Ev.assign ?_
  refine Seq.nil ?_
  refine JC.seq ?_
  refine JC.rs ?_
  refine Seq.p rfl Ev.move ?_
  refine Seq.p rfl Ev.not ?_
  refine Seq.nil ?_
  first | refine JC.c (ht := fun c20 => ?_) (hf := fun c20 => ?_) | refine JC.cb (ht := fun c20 => ?_) (hf := fun c20 => ?_)
  · -- then_t20
    cases c20
  · -- else_t20
    refine JC.skip ?_
    refine JC.rs ?_
    refine Seq.p rfl Ev.move ?_
    refine Seq.call rfl (fun w hw => msgNumbers (RAt.up (RAt.box (enc := Fld.enc) (hs := by omega)) hw)) (F := _) (by exact List.Perm.refl _) ?_
    intro u N hN
    rw [NumsPost, if_neg hn] at hN
    subst hN
    refine Seq.p rfl Ev.move ?_
    refine Seq.p rfl Ev.extract ?_
    refine Seq.p rfl Ev.extract ?_
    refine Seq.p rfl Ev.assign ?_
    refine Seq.p rfl Ev.assign ?_
    refine Seq.nil ?_
    refine JC.seq ?_
    refine JC.qs mixed (by kernel_rfl) ?_
    refine Qui.p rfl Ev.move ?_
    refine Qui.p rfl Ev.not ?_
    refine Qui.p rfl Ev.move ?_
    refine Qui.split (d := 28) (k := ?_)
    rintro (_|_) h28
    · try simp only [decide_eq_true_eq, decide_eq_false_iff_not] at h28
      cases h28
    · try simp only [decide_eq_true_eq, decide_eq_false_iff_not] at h28
      refine Qui.gn rfl rfl rfl rfl ?_
      refine Qui.gn rfl rfl rfl rfl ?_
      refine Qui.gn rfl rfl rfl rfl ?_
      refine Qui.gn rfl rfl rfl rfl ?_
      refine Qui.gn rfl rfl rfl rfl ?_
      refine Qui.p rfl Ev.pickT ?_
      refine Qui.nil ?_
      refine JC.cT (h := ?_)
      refine JC.rs ?_
      refine Seq.p rfl Ev.assign ?_
      refine Seq.p rfl Ev.assign ?_
      refine Seq.p rfl Ev.assign ?_
      refine Seq.p rfl Ev.assign ?_
      refine Seq.p rfl Ev.assign ?_
      refine Seq.nil ?_
      refine JC.ret ?_
      show retQ _ _ _ _ _ _ _ _
      refine retI (RVs.t (hs := (RVs.t (hs := (RVs.t (hs := (RVs.t (hs := (RVs.t (hs := RVs.nil)))))))))) (Part.nil _) ?_
      show ToldPost _ _ _
      rw [ToldPost, if_neg (by rw [hE]; decide), hE]
      rfl
set_option maxHeartbeats 2000000 in
theorem msgTold2 {w : World} {i : Input} {k : Int} {s : ByteArray} {fs : List Fld} (hF : fieldsF i = some (k, s, fs)) (hn : fs.all (·.fits) = true) : Spec Go.Proofs.Tryz.prog 36 #[.agg i.enc.toArray] w [] (ToldPost i) := by
  have hE : toldE i = if inputF k (numsF fs) = i then 0 else 40 := by
    unfold toldE
    rw [hF]
    simp only [hn, true_and]
  have hsm := fieldsF_small hF
  refine Spec.enter (fn := Go.Proofs.Tryz.f36) (n := 39) [.agg i.enc.toArray] Go.Proofs.Tryz.func36 (by kernel_rfl) rfl Go.Proofs.Tryz.ntmps36 Go.Proofs.Tryz.results36 rfl (Own.nil _) ?_
  refine JC.rs ?_
  refine Seq.box (cs := [_, _, _, _, _, _, _, _, _, _, _]) (k := ?_); intro b1
  refine Seq.p rfl Ev.assign ?_
  refine Seq.p rfl Ev.assign ?_
  refine Seq.p rfl Ev.assign ?_
  refine Seq.p rfl Ev.assign ?_
  refine Seq.p rfl Ev.assign ?_
  refine Seq.nil ?_
  refine JC.rs ?_
  refine Seq.p rfl (Ev.ldBA ag.api_Input) ?_
  refine Seq.call rfl (fun w hw => hF ▸ msgFieldsOf) (F := _) (by exact List.Perm.refl _) ?_
  rintro _ _ ⟨bf, rfl, rfl⟩
  refine Seq.p rfl Ev.move ?_
  refine Seq.p rfl Ev.extract ?_
  refine Seq.p rfl Ev.extract ?_
  refine Seq.p rfl Ev.extract ?_
  refine Seq.p rfl Ev.extract ?_
  refine Seq.p rfl Ev.assign ?_
  refine Seq.p rfl Ev.assign ?_
  refine Seq.p rfl Ev.assign ?_
  refine Seq.p rfl Ev.assign ?_
  refine Seq.nil ?_
  refine JC.seq ?_
  refine JC.rs ?_
  refine Seq.p rfl Ev.move ?_
  refine Seq.p rfl Ev.not ?_
  refine Seq.nil ?_
  first | refine JC.c (ht := fun c20 => ?_) (hf := fun c20 => ?_) | refine JC.cb (ht := fun c20 => ?_) (hf := fun c20 => ?_)
  · -- then_t20
    cases c20
  · -- else_t20
    refine JC.skip ?_
    refine JC.rs ?_
    refine Seq.p rfl Ev.move ?_
    refine Seq.call rfl (fun w hw => msgNumbers (RAt.up (RAt.box (enc := Fld.enc) (hs := by omega)) hw)) (F := _) (by exact List.Perm.refl _) ?_
    intro u N hN
    rw [NumsPost, if_pos hn] at hN
    obtain ⟨bn, rfl, rfl⟩ := hN
    refine Seq.p rfl Ev.move ?_
    refine Seq.p rfl Ev.extract ?_
    refine Seq.p rfl Ev.extract ?_
    refine Seq.p rfl Ev.assign ?_
    refine Seq.p rfl Ev.assign ?_
    refine Seq.nil ?_
    refine JC.seq ?_
    refine JC.qs mixed (by kernel_rfl) ?_
    refine Qui.p rfl Ev.move ?_
    refine Qui.p rfl Ev.not ?_
    refine Qui.p rfl Ev.move ?_
    refine Qui.split (d := 28) (k := ?_)
    rintro (_|_) h28
    · try simp only [decide_eq_true_eq, decide_eq_false_iff_not] at h28
      refine Qui.gy rfl rfl rfl ?_
      refine Qui.p rfl Ev.move ?_
      refine Qui.gy rfl rfl rfl ?_
      refine Qui.p rfl Ev.move ?_
      refine Qui.gy rfl rfl rfl ?_
      refine Qui.call rfl (fun w hw => msgInputOf (RM.up RM.own hw)) ?_
      refine Qui.gy rfl rfl rfl ?_
      refine Qui.p rfl (Ev.ldBA ag.api_Input) ?_
      refine Qui.gy rfl rfl rfl ?_
      refine Qui.p rfl (Ev.neAg so.api_Input ag.api_Input gd.api_Input) ?_
      refine Qui.p rfl Ev.pickF ?_
      refine Qui.nil ?_
      first | refine JC.c (ht := fun c34 => ?_) (hf := fun c34 => ?_) | refine JC.cb (ht := fun c34 => ?_) (hf := fun c34 => ?_)
      · -- then_t34
        have c35 : (!eqL (inputF k (numsF fs)).enc i.enc) = true := c34
        rw [Input.eqL_enc] at c35
        have hne : ¬ inputF k (numsF fs) = i := by simpa using c35
        rw [if_neg hne] at hE
        refine JC.rs ?_
        refine Seq.p rfl Ev.assign ?_
        refine Seq.p rfl Ev.assign ?_
        refine Seq.p rfl Ev.assign ?_
        refine Seq.p rfl Ev.assign ?_
        refine Seq.p rfl Ev.assign ?_
        refine Seq.nil ?_
        refine JC.ret ?_
        show retQ _ _ _ _ _ _ _ _
        refine retI (RVs.t (hs := (RVs.t (hs := (RVs.t (hs := (RVs.t (hs := (RVs.t (hs := RVs.nil)))))))))) (Part.nil _) ?_
        show ToldPost _ _ _
        rw [ToldPost, if_neg (by rw [hE]; decide), hE]
        rfl
      · -- else_t34
        have c35 : (!eqL (inputF k (numsF fs)).enc i.enc) = false := c34
        rw [Input.eqL_enc] at c35
        have heq : inputF k (numsF fs) = i := by simpa using c35
        rw [if_pos heq] at hE
        refine JC.skip ?_
        refine JC.rs ?_
        refine Seq.p rfl Ev.move ?_
        refine Seq.p rfl Ev.move ?_
        refine Seq.p rfl Ev.move ?_
        refine Seq.p rfl Ev.move ?_
        refine Seq.p rfl Ev.assign ?_
        refine Seq.p rfl Ev.assign ?_
        refine Seq.p rfl Ev.assign ?_
        refine Seq.p rfl Ev.assign ?_
        refine Seq.p rfl Ev.assign ?_
        refine Seq.nil ?_
        refine JC.ret ?_
        show retQ _ _ _ _ _ _ _ _
        refine retI (H' := [.mi bn .i64 .u64 (numsF fs), .box bf 119 (fs.flatMap Fld.enc)]) (RVs.t (hs := (RVs.t (hs := (RVs.t (hs := (RVs.t (hs := (RVs.t (hs := RVs.nil)))))))))) (Part.here (Part.here (Part.nil _))) ?_
        show ToldPost _ _ _
        rw [ToldPost, if_pos hE]
        exact ⟨k, s, fs, bf, bn, hF, rfl, rfl⟩
    · try simp only [decide_eq_true_eq, decide_eq_false_iff_not] at h28
      cases h28
theorem msgTold {w : World} {i : Input} : Spec Go.Proofs.Tryz.prog 36 #[.agg i.enc.toArray] w [] (ToldPost i) := by
  rcases hF : fieldsF i with _ | ⟨k, s, fs⟩
  · exact msgTold0 hF
  · by_cases hn : fs.all (·.fits) = true
    · exact msgTold2 hF hn
    · exact msgTold1 hF hn
structure Frame where
  kind : Int
  words : List Int
deriving DecidableEq, Inhabited
def Frame.enc (f : Frame) : List Value := .int .u8 f.kind :: f.words.map (Value.int .u64)
def frame0 : Frame := ⟨0, [0, 0, 0, 0, 0, 0, 0]⟩
def up (a n : Int) : Int := IntKind.u64.wrap (a * 2 ^ (min n.toNat IntKind.u64.bits))
def add64 (a b : Int) : Int := (a + b) % 18446744073709551616
def frameF (k : Int) (m : List (Int × Int)) : Frame :=
  ⟨k, [add64 (iget m 11) (iget m 9001), iget m 41, add64 (add64 (iget m 1) (up (iget m 54) 32)) (up (iget m 40) 40), iget m 44, iget m 38, iget m 210, 0]⟩
def packF (i : Input) : Frame × Int := if toldE i = 0 then (match fieldsF i with | some (k, s, fs) => frameF k (numsF fs) | none => frame0, 0) else (frame0, toldE i)
def packV (p : Frame × Int) : Value := .tuple #[.agg p.1.enc.toArray, .int .i64 p.2]
set_option maxHeartbeats 2000000 in
theorem msgPack0 {w : World} {i : Input} (hE : ¬ toldE i = 0) : Spec Go.Proofs.Tryz.prog 13 #[.agg i.enc.toArray] w [] (fun u _ => u = packV (packF i)) := by
  refine Spec.enter (fn := Go.Proofs.Tryz.f13) (n := 47) [.agg i.enc.toArray] Go.Proofs.Tryz.func13 (by kernel_rfl) rfl Go.Proofs.Tryz.ntmps13 Go.Proofs.Tryz.results13 rfl (Own.nil _) ?_
  refine JC.rs ?_
  refine Seq.box (cs := [_, _, _, _, _, _, _, _, _, _, _]) (k := ?_); intro b1
  refine Seq.alloc (cs := [_, _, _, _, _, _, _, _]) (hz := z.api_Frame) (k := ?_); intro b2
  refine Seq.p rfl Ev.assign ?_
  refine Seq.nil ?_
  refine JC.rs ?_
  refine Seq.p rfl (Ev.ldBA ag.api_Input) ?_
  refine Seq.call rfl (fun w hw => msgTold) (F := _) (by exact List.Perm.refl _) ?_
  intro u N hN
  rw [ToldPost, if_neg hE] at hN
  subst hN
  refine Seq.re (fun w h => h.part ⟨N, List.perm_append_comm⟩) ?_
  refine Seq.p rfl Ev.move ?_
  refine Seq.p rfl Ev.extract ?_
  refine Seq.p rfl Ev.extract ?_
  refine Seq.p rfl Ev.extract ?_
  refine Seq.p rfl Ev.extract ?_
  refine Seq.p rfl Ev.extract ?_
  refine Seq.p rfl Ev.assign ?_
  refine Seq.p rfl Ev.assign ?_
  refine Seq.p rfl Ev.assign ?_
  refine Seq.p rfl Ev.assign ?_
  refine Seq.p rfl Ev.assign ?_
  refine Seq.nil ?_
  refine JC.seq ?_
  refine JC.rs ?_
  refine Seq.p rfl Ev.move ?_
  refine Seq.p rfl Ev.ne ?_
  refine Seq.nil ?_
  first | refine JC.c (ht := fun c18 => ?_) (hf := fun c18 => ?_) | refine JC.cb (ht := fun c18 => ?_) (hf := fun c18 => ?_)
  · -- then_t18
    refine JC.rs ?_
    refine Seq.p rfl (Ev.buildN [_, _, _, _, _, _, _, _] pl.api_Frame z.api_Frame) ?_
    refine Seq.p rfl Ev.move ?_
    refine Seq.storeN [_, _, _, _, _, _, _, _] sz.api_Frame (k := ?_)
    refine Seq.p rfl Ev.assign ?_
    refine Seq.nil ?_
    refine JC.ret ?_
    show retQ _ _ _ _ _ _ _ _
    refine retB2 ag.api_Frame (hp := Part.nil _) (hpost := ?_)
    rw [packF, if_neg hE]
    rfl
  · -- else_t18
    exact absurd hE c18
set_option maxHeartbeats 4000000 in
theorem msgPack1 {w : World} {i : Input} (hE : toldE i = 0) : Spec Go.Proofs.Tryz.prog 13 #[.agg i.enc.toArray] w [] (fun u _ => u = packV (packF i)) := by
  refine Spec.enter (fn := Go.Proofs.Tryz.f13) (n := 47) [.agg i.enc.toArray] Go.Proofs.Tryz.func13 (by kernel_rfl) rfl Go.Proofs.Tryz.ntmps13 Go.Proofs.Tryz.results13 rfl (Own.nil _) ?_
  refine JC.rs ?_
  refine Seq.box (cs := [_, _, _, _, _, _, _, _, _, _, _]) (k := ?_); intro b1
  refine Seq.alloc (cs := [_, _, _, _, _, _, _, _]) (hz := z.api_Frame) (k := ?_); intro b2
  refine Seq.p rfl Ev.assign ?_
  refine Seq.nil ?_
  refine JC.rs ?_
  refine Seq.p rfl (Ev.ldBA ag.api_Input) ?_
  refine Seq.call rfl (fun w hw => msgTold) (F := _) (by exact List.Perm.refl _) ?_
  intro u N hN
  rw [ToldPost, if_pos hE] at hN
  obtain ⟨k, s, fs, b1, b3, hF, rfl, rfl⟩ := hN
  refine Seq.p rfl Ev.move ?_
  refine Seq.p rfl Ev.extract ?_
  refine Seq.p rfl Ev.extract ?_
  refine Seq.p rfl Ev.extract ?_
  refine Seq.p rfl Ev.extract ?_
  refine Seq.p rfl Ev.extract ?_
  refine Seq.p rfl Ev.assign ?_
  refine Seq.p rfl Ev.assign ?_
  refine Seq.p rfl Ev.assign ?_
  refine Seq.p rfl Ev.assign ?_
  refine Seq.p rfl Ev.assign ?_
  refine Seq.nil ?_
  refine JC.seq ?_
  refine JC.rs ?_
  refine Seq.p rfl Ev.move ?_
  refine Seq.p rfl Ev.ne ?_
  refine Seq.nil ?_
  first | refine JC.c (ht := fun c18 => ?_) (hf := fun c18 => ?_) | refine JC.cb (ht := fun c18 => ?_) (hf := fun c18 => ?_)
  · -- then_t18
    exact absurd rfl c18
  · -- else_t18
    refine JC.skip ?_
    refine JC.rs ?_
    refine Seq.p rfl Ev.move ?_
    refine Seq.p rfl Ev.move ?_
    refine Seq.p rfl (Ev.mapI mp.m_int_uint64 z.uint64 RM.own) ?_
    refine Seq.p rfl Ev.move ?_
    refine Seq.p rfl (Ev.mapI mp.m_int_uint64 z.uint64 RM.own) ?_
    refine Seq.p rfl Ev.addU ?_
    refine Seq.p rfl Ev.move ?_
    refine Seq.p rfl (Ev.mapI mp.m_int_uint64 z.uint64 RM.own) ?_
    refine Seq.p rfl Ev.move ?_
    refine Seq.p rfl (Ev.mapI mp.m_int_uint64 z.uint64 RM.own) ?_
    refine Seq.p rfl Ev.move ?_
    refine Seq.p rfl (Ev.mapI mp.m_int_uint64 z.uint64 RM.own) ?_
    refine Seq.p rfl Ev.shlW ?_
    refine Seq.p rfl Ev.addU ?_
    refine Seq.p rfl Ev.move ?_
    refine Seq.p rfl (Ev.mapI mp.m_int_uint64 z.uint64 RM.own) ?_
    refine Seq.p rfl Ev.shlW ?_
    refine Seq.p rfl Ev.addU ?_
    refine Seq.p rfl Ev.move ?_
    refine Seq.p rfl (Ev.mapI mp.m_int_uint64 z.uint64 RM.own) ?_
    refine Seq.p rfl Ev.move ?_
    refine Seq.p rfl (Ev.mapI mp.m_int_uint64 z.uint64 RM.own) ?_
    refine Seq.p rfl Ev.move ?_
    refine Seq.p rfl (Ev.mapI mp.m_int_uint64 z.uint64 RM.own) ?_
    refine Seq.p rfl (Ev.buildArrN [_, _, _, _, _, _, _] ar.a7_uint64 z.a7_uint64) ?_
    refine Seq.p rfl (Ev.buildN [_, _, _, _, _, _, _, _] pl.api_Frame z.api_Frame) ?_
    refine Seq.storeN [_, _, _, _, _, _, _, _] sz.api_Frame (k := ?_)
    refine Seq.p rfl Ev.assign ?_
    refine Seq.nil ?_
    refine JC.ret ?_
    show retQ _ _ _ _ _ _ _ _
    refine retB2 ag.api_Frame (hp := Part.nil _) (hpost := ?_)
    rw [packF, if_pos hE, hF]
    rfl
theorem msgPack {w : World} {i : Input} : Spec Go.Proofs.Tryz.prog 13 #[.agg i.enc.toArray] w [] (fun u _ => u = packV (packF i)) := by
  by_cases hE : toldE i = 0
  · exact msgPack1 hE
  · exact msgPack0 hE
end Go.Rx
namespace Go.Rx
open Go Go.RowKit
set_option linter.unusedVariables false
set_option linter.unusedSimpArgs false
def refFieldsF (k : Int) : List RF :=
  if k = 1 then [⟨11, 0, 0, 0⟩, ⟨1, 4294967295, 2, 0⟩, ⟨54, 255, 2, 32⟩, ⟨40, 255, 2, 40⟩, ⟨44, 4294967295, 3, 0⟩, ⟨38, 0, 4, 0⟩, ⟨210, 0, 5, 0⟩]
  else if k = 2 then [⟨41, 0, 1, 0⟩]
  else if k = 3 then [⟨41, 0, 1, 0⟩, ⟨11, 0, 0, 0⟩, ⟨44, 4294967295, 3, 0⟩, ⟨38, 0, 4, 0⟩, ⟨210, 0, 5, 0⟩]
  else if k = 4 then [⟨9001, 255, 0, 0⟩]
  else []
def RowPost (l : List RF) (u : Value) (N : List Chunk) : Prop := ∃ b, u = .slice (some ⟨b, 0, none⟩) l.length l.length ∧ N = [.box b 71 (l.flatMap RF.enc)]
def stepF (i : Input) (f : RF) (s : Input × List Int) : Option (Input × List Int) :=
  if (inValF i f.tag).2 = false then none else if 0 < f.most ∧ f.most < (inValF i f.tag).1 then none else some (withF s.1 f.tag (inValF i f.tag).1, s.2 ++ [(inValF i f.tag).1])
def valsGo (i : Input) : List RF → Input × List Int → Option (Input × List Int)
  | [], s => some s
  | f :: r, s => match stepF i f s with | none => none | some s' => valsGo i r s'
def refE (i : Input) : Int :=
  if nameF i = 0 then 41 else match valsGo i (refFieldsF (nameF i)) (bareF (nameF i), []) with | none => 40 | some s => if s.1 = i then 0 else 40
def uenc (n : Int) : List Value := [.int .u64 n]
def ValuesPost (i : Input) (u : Value) (N : List Chunk) : Prop :=
  if refE i = 0 then ∃ s A c, nameF i ≠ 0 ∧ valsGo i (refFieldsF (nameF i)) (bareF (nameF i), []) = some s ∧ u = .tuple #[.slice A s.2.length c, .int .i64 0] ∧ N = [.own 24 1 (.slice A s.2.length c) s.2.length (s.2.flatMap uenc)]
  else u = .tuple #[.slice none 0 0, .int .i64 (refE i)]
theorem nameF_range (i : Input) (h : ¬ nameF i = 0) : 1 ≤ nameF i ∧ nameF i ≤ 4 := by
  unfold nameF at h ⊢
  split
  · omega
  · split
    · omega
    · rename_i h1 h2
      rw [if_neg h1, if_neg h2] at h
      exact absurd rfl h
theorem refFieldsF_small (k : Int) : (refFieldsF k).length ≤ 7 := by
  unfold refFieldsF
  split
  · exact Nat.le_of_ble_eq_true rfl
  · split
    · exact Nat.le_of_ble_eq_true rfl
    · split
      · exact Nat.le_of_ble_eq_true rfl
      · split <;> exact Nat.le_of_ble_eq_true rfl
theorem of_ndec {p : Prop} [Decidable p] (h : (!decide p) = false) : p := by
  by_cases hp : p
  · exact hp
  · rw [decide_eq_false hp] at h; cases h
end Go.Rx
namespace Go.Rx
open Go Go.RowKit
set_option linter.unusedVariables false
set_option linter.unusedSimpArgs false
def laidStep (ws : List Int) (f : RF) (x : Int) : List Int := ws.set f.word.toNat (add64 ws[f.word.toNat]! (up x f.shift))
def laidGo : List RF → List Int → List Int → List Int
  | f :: l, x :: v, ws => laidGo l v (laidStep ws f x)
  | _, _, ws => ws
theorem list7 {α : Type} {xs : List α} (h : xs.length = 7) : ∃ a b c d e f g, xs = [a, b, c, d, e, f, g] := by
  match xs, h with
  | [a, b, c, d, e, f, g], _ => exact ⟨a, b, c, d, e, f, g, rfl⟩
def laidF (k : Int) (l : List RF) (v : List Int) : Frame := ⟨k % 256, laidGo l v [0, 0, 0, 0, 0, 0, 0]⟩
def refPackF (i : Input) : Frame × Int :=
  if refE i = 0 then (match valsGo i (refFieldsF (nameF i)) (bareF (nameF i), []) with | some s => laidF (nameF i) (refFieldsF (nameF i)) s.2 | none => frame0, 0) else (frame0, refE i)
end Go.Rx
namespace Go.Rx
open Go Go.RowKit
set_option linter.unusedVariables false
set_option linter.unusedSimpArgs false
structure Input.Wf (i : Input) : Prop where
  ckind : -9223372036854775808 ≤ i.ckind ∧ i.ckind ≤ 9223372036854775807
  id : 0 ≤ i.id ∧ i.id ≤ 18446744073709551615
  target : 0 ≤ i.target ∧ i.target ≤ 18446744073709551615
  member : 0 ≤ i.member ∧ i.member ≤ 4294967295
  side : -9223372036854775808 ≤ i.side ∧ i.side ≤ 9223372036854775807
  type : -9223372036854775808 ≤ i.type ∧ i.type ≤ 9223372036854775807
  price : -9223372036854775808 ≤ i.price ∧ i.price ≤ 9223372036854775807
  qty : 0 ≤ i.qty ∧ i.qty ≤ 18446744073709551615
  peak : 0 ≤ i.peak ∧ i.peak ≤ 18446744073709551615
  engine : -9223372036854775808 ≤ i.engine ∧ i.engine ≤ 9223372036854775807
theorem s64_mod {n : Int} (h : -9223372036854775808 ≤ n ∧ n ≤ 9223372036854775807) : s64 (n % 18446744073709551616) = n := by
  have h64 : (2 ^ IntKind.i64.bits : Int) = 18446744073709551616 := rfl
  have h63 : (2 ^ (IntKind.i64.bits - 1) : Int) = 9223372036854775808 := rfl
  have hs : IntKind.i64.signed = true := rfl
  simp only [s64, IntKind.wrap, h64, h63, hs, Bool.true_and, ge_iff_le, decide_eq_true_eq]
  split <;> omega
theorem s64_in {n : Int} (h : 0 ≤ n ∧ n ≤ 9223372036854775807) : s64 n = n := by
  have := s64_mod (n := n) (by omega)
  rwa [Int.emod_eq_of_lt h.1 (by omega)] at this
theorem up_zero {n : Int} (h : 0 ≤ n ∧ n ≤ 18446744073709551615) : up n 0 = n := by
  have h64 : (2 ^ IntKind.u64.bits : Int) = 18446744073709551616 := rfl
  have hs : IntKind.u64.signed = false := rfl
  have e : (2 : Int) ^ (min (Int.toNat 0) IntKind.u64.bits) = 1 := rfl
  simp only [up, IntKind.wrap, h64, hs, Bool.false_and, e, Int.mul_one]
  exact Int.emod_eq_of_lt h.1 (by omega)
theorem up_none (n : Int) : up 0 n = 0 := by
  have h64 : (2 ^ IntKind.u64.bits : Int) = 18446744073709551616 := rfl
  have hs : IntKind.u64.signed = false := rfl
  simp [up, IntKind.wrap, h64, hs]
theorem add64_zero {n : Int} (h : 0 ≤ n ∧ n ≤ 18446744073709551615) : add64 0 n = n := by
  rw [add64, Int.zero_add]
  exact Int.emod_eq_of_lt h.1 (by omega)
theorem add64_zero' {n : Int} (h : 0 ≤ n ∧ n ≤ 18446744073709551615) : add64 n 0 = n := by
  rw [add64, Int.add_zero]
  exact Int.emod_eq_of_lt h.1 (by omega)
theorem add64_range (a b : Int) : 0 ≤ add64 a b ∧ add64 a b ≤ 18446744073709551615 := by
  unfold add64
  omega
theorem pack_err {i : Input} {e : Int} (he : e ≠ 0) (h1 : toldE i = e) (h2 : refE i = e) : packF i = refPackF i := by
  rw [packF, refPackF, if_neg (by rw [h1]; exact he), if_neg (by rw [h2]; exact he), h1, h2]
theorem step_small {i : Input} {f : RF} {s : Input × List Int} {n : Int} (hn : -9223372036854775808 ≤ n ∧ n ≤ 9223372036854775807) (hv : inValF i f.tag = (n % 18446744073709551616, decide (0 ≤ n))) (hm : 0 < f.most ∧ f.most ≤ 4294967295) :
    stepF i f s = if 0 ≤ n ∧ n ≤ f.most then some (withF s.1 f.tag (n % 18446744073709551616), s.2 ++ [n % 18446744073709551616]) else none := by
  unfold stepF
  rw [hv]
  by_cases h0 : 0 ≤ n
  · have e1 : n % 18446744073709551616 = n := Int.emod_eq_of_lt h0 (by omega)
    simp only [e1, h0, decide_true, true_and]
    by_cases h1 : n ≤ f.most
    · rw [if_pos h1, if_neg (by simp), if_neg (by omega)]
    · rw [if_neg h1, if_neg (by simp), if_pos ⟨hm.1, by omega⟩]
  · rw [if_pos (by simp [h0]), if_neg (fun h => h0 h.1)]
theorem step_any {i : Input} {f : RF} {s : Input × List Int} {n : Int} (hv : inValF i f.tag = (n, true)) (hm : f.most = 0 ∨ n ≤ f.most) :
    stepF i f s = some (withF s.1 f.tag n, s.2 ++ [n]) := by
  unfold stepF
  rw [hv, if_neg (by simp), if_neg (by simp only; omega)]
theorem pack_new {i : Input} (hw : i.Wf) (h1 : i.kind = 1) (h2 : i.ckind = 1) : packF i = refPackF i := by
  have hF : fieldsF i = some (1, ⟨#[68]⟩, [wholeF 11 i.id, wholeF 1 (i.member % 18446744073709551616), upToF 54 i.side 255, upToF 40 i.type 255, upToF 44 i.price 4294967295, wholeF 38 i.qty, wholeF 210 i.peak]) := by
    rw [fieldsF, if_neg (by omega), if_neg (by omega), if_pos h2]
  have hN : nameF i = 1 := by rw [nameF, if_neg (by omega), if_pos (by omega), h2]
  have hm := hw.member
  have em : i.member % 18446744073709551616 = i.member := Int.emod_eq_of_lt hm.1 (by omega)
  have em2 : i.member % 4294967296 = i.member := Int.emod_eq_of_lt hm.1 (by omega)
  have hR : refE i = match valsGo i (refFieldsF 1) (bareF 1, []) with | none => 40 | some s => if s.1 = i then 0 else 40 := by
    rw [refE, hN]
    rfl
  have v1 : stepF i ⟨11, 0, 0, 0⟩ (bareF 1, []) = _ := step_any (n := i.id) rfl (.inl rfl)
  have v2 : ∀ s, stepF i ⟨1, 4294967295, 2, 0⟩ s = _ := fun s => step_any (n := i.member % 18446744073709551616) rfl (.inr (by rw [em]; exact hm.2))
  have v3 : ∀ s, stepF i ⟨54, 255, 2, 32⟩ s = _ := fun s => step_small hw.side rfl (by decide)
  have v4 : ∀ s, stepF i ⟨40, 255, 2, 40⟩ s = _ := fun s => step_small hw.type rfl (by decide)
  have v5 : ∀ s, stepF i ⟨44, 4294967295, 3, 0⟩ s = _ := fun s => step_small hw.price rfl (by decide)
  have v6 : ∀ s, stepF i ⟨38, 0, 4, 0⟩ s = _ := fun s => step_any (n := i.qty) rfl (.inl rfl)
  have v7 : ∀ s, stepF i ⟨210, 0, 5, 0⟩ s = _ := fun s => step_any (n := i.peak) rfl (.inl rfl)
  have hV : valsGo i (refFieldsF 1) (bareF 1, []) = valsGo i [⟨11, 0, 0, 0⟩, ⟨1, 4294967295, 2, 0⟩, ⟨54, 255, 2, 32⟩, ⟨40, 255, 2, 40⟩, ⟨44, 4294967295, 3, 0⟩, ⟨38, 0, 4, 0⟩, ⟨210, 0, 5, 0⟩] (bareF 1, []) := rfl
  by_cases hs : (0 ≤ i.side ∧ i.side ≤ 255) ∧ (0 ≤ i.type ∧ i.type ≤ 255) ∧ (0 ≤ i.price ∧ i.price ≤ 4294967295)
  · obtain ⟨b1, b2, b3⟩ := hs
    have es : i.side % 18446744073709551616 = i.side := Int.emod_eq_of_lt b1.1 (by omega)
    have et : i.type % 18446744073709551616 = i.type := Int.emod_eq_of_lt b2.1 (by omega)
    have ep : i.price % 18446744073709551616 = i.price := Int.emod_eq_of_lt b3.1 (by omega)
    have fs : s64 i.side = i.side := s64_in (by omega)
    have ft : s64 i.type = i.type := s64_in (by omega)
    have fp : s64 i.price = i.price := s64_in (by omega)
    simp only [valsGo, v1, v2, v3, v4, v5, v6, v7, if_pos b1, if_pos b2, if_pos b3, List.nil_append, List.cons_append] at hV
    have hs1 : valsGo i (refFieldsF 1) (bareF 1, []) = some (⟨1, 1, i.id, 0, i.member, i.side, i.type, i.price, i.qty, i.peak, 0⟩, [i.id, i.member, i.side, i.type, i.price, i.qty, i.peak]) := by
      rw [hV]
      simp [withF, bareF, em, em2, es, et, ep, fs, ft, fp]
    have hI : inputF 1 (numsF [wholeF 11 i.id, wholeF 1 (i.member % 18446744073709551616), upToF 54 i.side 255, upToF 40 i.type 255, upToF 44 i.price 4294967295, wholeF 38 i.qty, wholeF 210 i.peak]) = ⟨1, 1, i.id, 0, i.member, i.side, i.type, i.price, i.qty, i.peak, 0⟩ := by
      simp [wholeF, upToF, numsF, iput, inputF, iget, em, em2, es, et, ep, fs, ft, fp]
      rfl
    have hA : ([wholeF 11 i.id, wholeF 1 (i.member % 18446744073709551616), upToF 54 i.side 255, upToF 40 i.type 255, upToF 44 i.price 4294967295, wholeF 38 i.qty, wholeF 210 i.peak].all (·.fits)) = true := by
      simp [wholeF, upToF, b1, b2, b3]
    by_cases hX : (⟨1, 1, i.id, 0, i.member, i.side, i.type, i.price, i.qty, i.peak, 0⟩ : Input) = i
    · have t0 : toldE i = 0 := by
        rw [toldE, hF]
        exact if_pos ⟨hA, by rw [hI]; exact hX⟩
      have r0 : refE i = 0 := by
        rw [hR, hs1]
        exact if_pos hX
      rw [packF, refPackF, if_pos t0, if_pos r0, hF, hN, hs1]
      have q1 := hw.id
      have q2 := hw.qty
      have q3 := hw.peak
      have x1 := up_zero hw.id
      have x2 : up i.member 0 = i.member := up_zero (by omega)
      have x3 : up i.price 0 = i.price := up_zero (by omega)
      have x4 := up_zero hw.qty
      have x5 := up_zero hw.peak
      have y1 := add64_zero hw.id
      have y1' := add64_zero' hw.id
      have y2 : add64 0 i.member = i.member := add64_zero (by omega)
      have y3 : add64 0 i.price = i.price := add64_zero (by omega)
      have y4 := add64_zero hw.qty
      have y5 := add64_zero hw.peak
      simp [frameF, laidF, refFieldsF, laidGo, laidStep, wholeF, upToF, numsF, iput, iget, em, es, et, ep, x1, x2, x3, x4, x5, y1, y1', y2, y3, y4, y5]
    · refine pack_err (e := 40) (by decide) ?_ ?_
      · rw [toldE, hF]
        exact if_neg (fun h => hX (by rw [← hI]; exact h.2))
      · rw [hR, hs1]
        exact if_neg hX
  · refine pack_err (e := 40) (by decide) ?_ ?_
    · rw [toldE, hF]
      refine if_neg (fun h => hs ?_)
      have := h.1
      simpa [wholeF, upToF, and_assoc] using this
    · rw [hR, hV]
      simp only [valsGo, v1, v2, v3, v4, v5, v6, v7]
      by_cases b1 : 0 ≤ i.side ∧ i.side ≤ 255
      · by_cases b2 : 0 ≤ i.type ∧ i.type ≤ 255
        · have b3 : ¬ (0 ≤ i.price ∧ i.price ≤ 4294967295) := fun b3 => hs ⟨b1, b2, b3⟩
          simp only [if_pos b1, if_pos b2, if_neg b3]
        · simp only [if_pos b1, if_neg b2]
      · simp only [if_neg b1]
end Go.Rx
namespace Go.Rx
open Go Go.RowKit
set_option linter.unusedVariables false
set_option linter.unusedSimpArgs false
theorem pack_cancel {i : Input} (hw : i.Wf) (h1 : i.kind = 1) (h2 : i.ckind = 2) : packF i = refPackF i := by
  have hF : fieldsF i = some (2, ⟨#[70]⟩, [wholeF 41 i.target]) := by
    rw [fieldsF, if_neg (by omega), if_neg (by omega), if_neg (by omega), if_pos h2]
  have hN : nameF i = 2 := by rw [nameF, if_neg (by omega), if_pos (by omega), h2]
  have hR : refE i = match valsGo i (refFieldsF 2) (bareF 2, []) with | none => 40 | some s => if s.1 = i then 0 else 40 := by
    rw [refE, hN]
    rfl
  have v0 : ∀ s, stepF i ⟨41, 0, 1, 0⟩ s = _ := fun s => step_any (n := i.target) rfl (.inl rfl)
  have hV : valsGo i (refFieldsF 2) (bareF 2, []) = valsGo i [⟨41, 0, 1, 0⟩] (bareF 2, []) := rfl
  simp only [valsGo, v0, List.nil_append, List.cons_append] at hV
  have hs1 : valsGo i (refFieldsF 2) (bareF 2, []) = some (⟨1, 2, 0, i.target, 0, 0, 0, 0, 0, 0, 0⟩, [i.target]) := by
    rw [hV]
    simp [withF, bareF]
  have hI : inputF 2 (numsF [wholeF 41 i.target]) = ⟨1, 2, 0, i.target, 0, 0, 0, 0, 0, 0, 0⟩ := by
    simp [wholeF, upToF, numsF, iput, inputF, iget]
    all_goals first | rfl | exact ⟨rfl, rfl⟩
  have hA : ([wholeF 41 i.target].all (·.fits)) = true := by
    simp [wholeF, upToF]
  by_cases hX : (⟨1, 2, 0, i.target, 0, 0, 0, 0, 0, 0, 0⟩ : Input) = i
  · have t0 : toldE i = 0 := by
      rw [toldE, hF]
      exact if_pos ⟨hA, by rw [hI]; exact hX⟩
    have r0 : refE i = 0 := by
      rw [hR, hs1]
      exact if_pos hX
    rw [packF, refPackF, if_pos t0, if_pos r0, hF, hN, hs1]
    have x0 := up_zero hw.target
    have y0 := add64_zero hw.target
    have z0 := add64_zero' hw.target
    have zz : add64 0 0 = 0 := rfl
    simp [frameF, laidF, refFieldsF, laidGo, laidStep, wholeF, upToF, numsF, iput, iget, up_none, zz, x0, y0, z0]
  · refine pack_err (e := 40) (by decide) ?_ ?_
    · rw [toldE, hF]
      exact if_neg (fun h => hX (by rw [← hI]; exact h.2))
    · rw [hR, hs1]
      exact if_neg hX
theorem pack_replace {i : Input} (hw : i.Wf) (h1 : i.kind = 1) (h2 : i.ckind = 3) : packF i = refPackF i := by
  have hF : fieldsF i = some (3, ⟨#[71]⟩, [wholeF 41 i.target, wholeF 11 i.id, upToF 44 i.price 4294967295, wholeF 38 i.qty, wholeF 210 i.peak]) := by
    rw [fieldsF, if_neg (by omega), if_neg (by omega), if_neg (by omega), if_neg (by omega), if_pos h2]
  have hN : nameF i = 3 := by rw [nameF, if_neg (by omega), if_pos (by omega), h2]
  have hR : refE i = match valsGo i (refFieldsF 3) (bareF 3, []) with | none => 40 | some s => if s.1 = i then 0 else 40 := by
    rw [refE, hN]
    rfl
  have v0 : ∀ s, stepF i ⟨41, 0, 1, 0⟩ s = _ := fun s => step_any (n := i.target) rfl (.inl rfl)
  have v1 : ∀ s, stepF i ⟨11, 0, 0, 0⟩ s = _ := fun s => step_any (n := i.id) rfl (.inl rfl)
  have v2 : ∀ s, stepF i ⟨44, 4294967295, 3, 0⟩ s = _ := fun s => step_small hw.price rfl (by decide)
  have v3 : ∀ s, stepF i ⟨38, 0, 4, 0⟩ s = _ := fun s => step_any (n := i.qty) rfl (.inl rfl)
  have v4 : ∀ s, stepF i ⟨210, 0, 5, 0⟩ s = _ := fun s => step_any (n := i.peak) rfl (.inl rfl)
  have hV : valsGo i (refFieldsF 3) (bareF 3, []) = valsGo i [⟨41, 0, 1, 0⟩, ⟨11, 0, 0, 0⟩, ⟨44, 4294967295, 3, 0⟩, ⟨38, 0, 4, 0⟩, ⟨210, 0, 5, 0⟩] (bareF 3, []) := rfl
  by_cases b : 0 ≤ i.price ∧ i.price ≤ 4294967295
  · have em : i.price % 18446744073709551616 = i.price := Int.emod_eq_of_lt b.1 (by omega)
    have fm : s64 i.price = i.price := s64_in (by omega)
    simp only [valsGo, v0, v1, v2, v3, v4, if_pos b, List.nil_append, List.cons_append] at hV
    have hs1 : valsGo i (refFieldsF 3) (bareF 3, []) = some (⟨1, 3, i.id, i.target, 0, 0, 0, i.price, i.qty, i.peak, 0⟩, [i.target, i.id, i.price, i.qty, i.peak]) := by
      rw [hV]
      simp [withF, bareF, em, fm]
    have hI : inputF 3 (numsF [wholeF 41 i.target, wholeF 11 i.id, upToF 44 i.price 4294967295, wholeF 38 i.qty, wholeF 210 i.peak]) = ⟨1, 3, i.id, i.target, 0, 0, 0, i.price, i.qty, i.peak, 0⟩ := by
      simp [wholeF, upToF, numsF, iput, inputF, iget, em, fm]
      all_goals first | rfl | exact ⟨rfl, rfl⟩
    have hA : ([wholeF 41 i.target, wholeF 11 i.id, upToF 44 i.price 4294967295, wholeF 38 i.qty, wholeF 210 i.peak].all (·.fits)) = true := by
      simp [wholeF, upToF, b]
    by_cases hX : (⟨1, 3, i.id, i.target, 0, 0, 0, i.price, i.qty, i.peak, 0⟩ : Input) = i
    · have t0 : toldE i = 0 := by
        rw [toldE, hF]
        exact if_pos ⟨hA, by rw [hI]; exact hX⟩
      have r0 : refE i = 0 := by
        rw [hR, hs1]
        exact if_pos hX
      rw [packF, refPackF, if_pos t0, if_pos r0, hF, hN, hs1]
      have x0 := up_zero hw.target
      have y0 := add64_zero hw.target
      have z0 := add64_zero' hw.target
      have x1 := up_zero hw.id
      have y1 := add64_zero hw.id
      have z1 := add64_zero' hw.id
      have x2 : up i.price 0 = i.price := up_zero (by omega)
      have y2 : add64 0 i.price = i.price := add64_zero (by omega)
      have z2 : add64 i.price 0 = i.price := add64_zero' (by omega)
      have x3 := up_zero hw.qty
      have y3 := add64_zero hw.qty
      have z3 := add64_zero' hw.qty
      have x4 := up_zero hw.peak
      have y4 := add64_zero hw.peak
      have z4 := add64_zero' hw.peak
      have zz : add64 0 0 = 0 := rfl
      simp [frameF, laidF, refFieldsF, laidGo, laidStep, wholeF, upToF, numsF, iput, iget, up_none, zz, em, x0, y0, z0, x1, y1, z1, x2, y2, z2, x3, y3, z3, x4, y4, z4]
    · refine pack_err (e := 40) (by decide) ?_ ?_
      · rw [toldE, hF]
        exact if_neg (fun h => hX (by rw [← hI]; exact h.2))
      · rw [hR, hs1]
        exact if_neg hX
  · refine pack_err (e := 40) (by decide) ?_ ?_
    · rw [toldE, hF]
      refine if_neg (fun h => b ?_)
      have := h.1
      simpa [wholeF, upToF, and_assoc] using this
    · rw [hR, hV]
      simp only [valsGo, v0, v1, v2, v3, v4, if_neg b]
theorem pack_engine {i : Input} (hw : i.Wf) (h1 : i.kind = 2) : packF i = refPackF i := by
  have hF : fieldsF i = some (4, ⟨#[85, 69]⟩, [upToF 9001 i.engine 255]) := by
    rw [fieldsF, if_pos h1]
  have hN : nameF i = 4 := by rw [nameF, if_pos h1]
  have hR : refE i = match valsGo i (refFieldsF 4) (bareF 4, []) with | none => 40 | some s => if s.1 = i then 0 else 40 := by
    rw [refE, hN]
    rfl
  have v0 : ∀ s, stepF i ⟨9001, 255, 0, 0⟩ s = _ := fun s => step_small hw.engine rfl (by decide)
  have hV : valsGo i (refFieldsF 4) (bareF 4, []) = valsGo i [⟨9001, 255, 0, 0⟩] (bareF 4, []) := rfl
  by_cases b : 0 ≤ i.engine ∧ i.engine ≤ 255
  · have em : i.engine % 18446744073709551616 = i.engine := Int.emod_eq_of_lt b.1 (by omega)
    have fm : s64 i.engine = i.engine := s64_in (by omega)
    simp only [valsGo, v0, if_pos b, List.nil_append, List.cons_append] at hV
    have hs1 : valsGo i (refFieldsF 4) (bareF 4, []) = some (⟨2, 0, 0, 0, 0, 0, 0, 0, 0, 0, i.engine⟩, [i.engine]) := by
      rw [hV]
      simp [withF, bareF, em, fm]
    have hI : inputF 4 (numsF [upToF 9001 i.engine 255]) = ⟨2, 0, 0, 0, 0, 0, 0, 0, 0, 0, i.engine⟩ := by
      simp [wholeF, upToF, numsF, iput, inputF, iget, em, fm]
      all_goals first | rfl | exact ⟨rfl, rfl⟩
    have hA : ([upToF 9001 i.engine 255].all (·.fits)) = true := by
      simp [wholeF, upToF, b]
    by_cases hX : (⟨2, 0, 0, 0, 0, 0, 0, 0, 0, 0, i.engine⟩ : Input) = i
    · have t0 : toldE i = 0 := by
        rw [toldE, hF]
        exact if_pos ⟨hA, by rw [hI]; exact hX⟩
      have r0 : refE i = 0 := by
        rw [hR, hs1]
        exact if_pos hX
      rw [packF, refPackF, if_pos t0, if_pos r0, hF, hN, hs1]
      have x0 : up i.engine 0 = i.engine := up_zero (by omega)
      have y0 : add64 0 i.engine = i.engine := add64_zero (by omega)
      have z0 : add64 i.engine 0 = i.engine := add64_zero' (by omega)
      have zz : add64 0 0 = 0 := rfl
      simp [frameF, laidF, refFieldsF, laidGo, laidStep, wholeF, upToF, numsF, iput, iget, up_none, zz, em, x0, y0, z0]
    · refine pack_err (e := 40) (by decide) ?_ ?_
      · rw [toldE, hF]
        exact if_neg (fun h => hX (by rw [← hI]; exact h.2))
      · rw [hR, hs1]
        exact if_neg hX
  · refine pack_err (e := 40) (by decide) ?_ ?_
    · rw [toldE, hF]
      refine if_neg (fun h => b ?_)
      have := h.1
      simpa [wholeF, upToF, and_assoc] using this
    · rw [hR, hV]
      simp only [valsGo, v0, if_neg b]
theorem pack_none {i : Input} (h1 : ¬ i.kind = 2) (h2 : ¬ (i.kind = 1 ∧ 1 ≤ i.ckind ∧ i.ckind ≤ 3)) : packF i = refPackF i := by
  have hF : fieldsF i = none := by
    rw [fieldsF, if_neg h1]
    by_cases h : i.kind = 1
    · rw [if_neg (by omega), if_neg (by omega), if_neg (by omega), if_neg (by omega)]
    · rw [if_pos h]
  refine pack_err (e := 41) (by decide) ?_ ?_
  · rw [toldE, hF]
  · exact if_pos (by rw [nameF, if_neg h1, if_neg h2])
theorem pack_eq {i : Input} (hw : i.Wf) : packF i = refPackF i := by
  by_cases h1 : i.kind = 2
  · exact pack_engine hw h1
  · by_cases h2 : i.kind = 1 ∧ 1 ≤ i.ckind ∧ i.ckind ≤ 3
    · have : i.ckind = 1 ∨ i.ckind = 2 ∨ i.ckind = 3 := by omega
      rcases this with h | h | h
      · exact pack_new hw h2.1 h
      · exact pack_cancel hw h2.1 h
      · exact pack_replace hw h2.1 h
    · exact pack_none h1 h2
end Go.Rx
/- The law bourselaw04.MessagePacks gives true, whatever the input; the input reads as it did. No condition beyond the row's own. -/
namespace Go.Rx
open Go Go.RowKit Go.WideShapes
set_option linter.unusedVariables false
set_option linter.unusedSimpArgs false
theorem packF_len (i : Input) : (packF i).1.words.length = 7 := by
  unfold packF
  split
  · split <;> rfl
  · rfl
theorem isSort_int' {k : IntKind} {v : Value} (h : isSort (.int k) v = true) (hw : wfV v = true) : ∃ n, v = .int k n ∧ (Lit.int k n).wf = true := by
  obtain ⟨n, rfl⟩ := isSort_int h
  exact ⟨n, rfl, hw⟩
theorem wf_bounds {k : IntKind} {n : Int} (h : (Lit.int k n).wf = true) : k.min ≤ n ∧ n ≤ k.max := by
  unfold Lit.wf at h
  rw [Bool.and_eq_true] at h
  exact ⟨of_decide_eq_true h.1, of_decide_eq_true h.2⟩
set_option maxRecDepth 100000 in
theorem open_input {H : Type} {enc : TypeId × Value → H} {W : World} {base : Nat} {v : Value} {d : DataW H} {p : List MemPlace} (hv : Value.okWide Go.Proofs.Tryz.prog W .any base 29 v) (h : DataW.Trod enc Go.Proofs.Tryz.prog W 0 (fun _ => true) true 29 v d p) :
    ∃ i : Input, v = .agg i.enc.toArray ∧ i.Wf := by
  obtain ⟨cs, rfl, hcs⟩ := okWide_struct Go.Proofs.Tryz.underlying29 hv
  obtain ⟨fuel, hf⟩ := h
  have hp := trod_plain 20 _ _ so.api_Input fuel _ _ hf
  have e : (Value.agg cs).cells.toList = cs.toList := rfl
  rw [e] at hp
  obtain ⟨ha, hb⟩ := hp
  obtain ⟨c0, r0, q0, i0, ha⟩ := areSorts_cons ha
  obtain ⟨c1, r1, rfl, i1, ha⟩ := areSorts_cons ha
  obtain ⟨c2, r2, rfl, i2, ha⟩ := areSorts_cons ha
  obtain ⟨c3, r3, rfl, i3, ha⟩ := areSorts_cons ha
  obtain ⟨c4, r4, rfl, i4, ha⟩ := areSorts_cons ha
  obtain ⟨c5, r5, rfl, i5, ha⟩ := areSorts_cons ha
  obtain ⟨c6, r6, rfl, i6, ha⟩ := areSorts_cons ha
  obtain ⟨c7, r7, rfl, i7, ha⟩ := areSorts_cons ha
  obtain ⟨c8, r8, rfl, i8, ha⟩ := areSorts_cons ha
  obtain ⟨c9, r9, rfl, i9, ha⟩ := areSorts_cons ha
  obtain ⟨c10, r10, rfl, i10, ha⟩ := areSorts_cons ha
  obtain rfl := areSorts_nil ha
  rw [q0] at hb
  simp only [List.all_cons, List.all_nil, Bool.and_eq_true] at hb
  obtain ⟨n0, rfl, w0⟩ := isSort_int' i0 hb.1
  obtain ⟨n1, rfl, w1⟩ := isSort_int' i1 hb.2.1
  obtain ⟨n2, rfl, w2⟩ := isSort_int' i2 hb.2.2.1
  obtain ⟨n3, rfl, w3⟩ := isSort_int' i3 hb.2.2.2.1
  obtain ⟨n4, rfl, w4⟩ := isSort_int' i4 hb.2.2.2.2.1
  obtain ⟨n5, rfl, w5⟩ := isSort_int' i5 hb.2.2.2.2.2.1
  obtain ⟨n6, rfl, w6⟩ := isSort_int' i6 hb.2.2.2.2.2.2.1
  obtain ⟨n7, rfl, w7⟩ := isSort_int' i7 hb.2.2.2.2.2.2.2.1
  obtain ⟨n8, rfl, w8⟩ := isSort_int' i8 hb.2.2.2.2.2.2.2.2.1
  obtain ⟨n9, rfl, w9⟩ := isSort_int' i9 hb.2.2.2.2.2.2.2.2.2.1
  obtain ⟨n10, rfl, w10⟩ := isSort_int' i10 hb.2.2.2.2.2.2.2.2.2.2.1
  refine ⟨⟨n0, n1, n2, n3, n4, n5, n6, n7, n8, n9, n10⟩, ?_, ⟨wf_bounds w1, wf_bounds w2, wf_bounds w3, wf_bounds w4, wf_bounds w5, wf_bounds w6, wf_bounds w7, wf_bounds w8, wf_bounds w9, wf_bounds w10⟩⟩
  congr 1
  apply Array.ext'
  rw [q0]
  rfl
end Go.Rx
namespace Go.Proofs.YthpejgmkiomfhaaGreatDoor
open Go Go.RowKit Go.WideShapes Go.ChangeShapes Go.ChangeAt Go.Rx
set_option linter.unusedVariables false
end Go.Proofs.YthpejgmkiomfhaaGreatDoor
namespace Go.Rx
open Go Go.RowKit
set_option linter.unusedVariables false
set_option linter.unusedSimpArgs false
structure Event where
  seq : Int
  kind : Int
  id : Int
  other : Int
  target : Int
  member : Int
  side : Int
  type : Int
  price : Int
  qty : Int
  peak : Int
  reason : Int
  code : Int
deriving DecidableEq, Inhabited
def Event.enc (e : Event) : List Value := [.int .u64 e.seq, .int .i64 e.kind, .int .u64 e.id, .int .u64 e.other, .int .u64 e.target, .int .u32 e.member, .int .i64 e.side, .int .i64 e.type, .int .i64 e.price, .int .u64 e.qty, .int .u64 e.peak, .int .i64 e.reason, .int .i64 e.code]
theorem Event.eqL_enc (x y : Event) : eqL x.enc y.enc = decide (x = y) := by
  cases x; cases y
  simp [Event.enc, eqL, eqV, Bool.decide_and]
def eventOfF (k : Int) (ms : List (Int × Int)) : Event :=
  ⟨iget ms 34, k, iget ms 11, iget ms 37, iget ms 41, iget ms 1 % 4294967296, s64 (iget ms 54), s64 (iget ms 40), s64 (iget ms 44), iget ms 38, iget ms 210, s64 (iget ms 378), s64 (iget ms 103)⟩
def eventValueF (e : Event) (t : Int) : Int × Bool :=
  if t = 34 then (e.seq, true) else if t = 11 then (e.id, true) else if t = 41 then (e.target, true) else if t = 37 then (e.other, true) else if t = 1 then (e.member % 18446744073709551616, true) else if t = 38 then (e.qty, true) else if t = 210 then (e.peak, true)
  else
    let n := if t = 54 then e.side else if t = 40 then e.type else if t = 44 then e.price else if t = 378 then e.reason else if t = 103 then e.code else 0
    (n % 18446744073709551616, decide (0 ≤ n))
def withEventF (e : Event) (t n : Int) : Event :=
  if t = 34 then { e with seq := n } else if t = 11 then { e with id := n } else if t = 41 then { e with target := n } else if t = 37 then { e with other := n } else if t = 1 then { e with member := n % 4294967296 } else if t = 38 then { e with qty := n } else if t = 210 then { e with peak := n }
  else if t = 54 then { e with side := s64 n } else if t = 40 then { e with type := s64 n } else if t = 44 then { e with price := s64 n } else if t = 378 then { e with reason := s64 n } else if t = 103 then { e with code := s64 n } else e
set_option maxHeartbeats 2000000 in
theorem msgEventOf {w : World} {k : Int} {v : Value} {ms : List (Int × Int)} (hm : RMp .i64 .u64 w [] v ms) : Spec Go.Proofs.Tryz.prog 31 #[.int .i64 k, v] w [] (fun u _ => u = .agg (eventOfF k ms).enc.toArray) := by
  refine Spec.enter (fn := Go.Proofs.Tryz.f31) (n := 37) [.int .i64 k, v] Go.Proofs.Tryz.func31 (by kernel_rfl) rfl Go.Proofs.Tryz.ntmps31 Go.Proofs.Tryz.results31 rfl (Own.nil _) ?_
  refine JC.rs ?_
  refine Seq.alloc (cs := [_, _, _, _, _, _, _, _, _, _, _, _, _]) (hz := z.api_Event) (k := ?_); intro b4
  refine Seq.nil ?_
  refine JC.rs ?_
  refine Seq.p rfl Ev.move ?_
  refine Seq.p rfl (Ev.mapI mp.m_int_uint64 z.uint64 hm.r) ?_
  refine Seq.p rfl Ev.move ?_
  refine Seq.p rfl Ev.move ?_
  refine Seq.p rfl (Ev.mapI mp.m_int_uint64 z.uint64 hm.r) ?_
  refine Seq.p rfl Ev.move ?_
  refine Seq.p rfl (Ev.mapI mp.m_int_uint64 z.uint64 hm.r) ?_
  refine Seq.p rfl Ev.move ?_
  refine Seq.p rfl (Ev.mapI mp.m_int_uint64 z.uint64 hm.r) ?_
  refine Seq.p rfl Ev.move ?_
  refine Seq.p rfl (Ev.mapI mp.m_int_uint64 z.uint64 hm.r) ?_
  refine Seq.p rfl (Ev.convU32W it.uint64 it.uint32) ?_
  refine Seq.p rfl Ev.move ?_
  refine Seq.p rfl (Ev.mapI mp.m_int_uint64 z.uint64 hm.r) ?_
  refine Seq.p rfl (Ev.convW it.uint64 it.int) ?_
  refine Seq.p rfl Ev.move ?_
  refine Seq.p rfl (Ev.mapI mp.m_int_uint64 z.uint64 hm.r) ?_
  refine Seq.p rfl (Ev.convW it.uint64 it.int) ?_
  refine Seq.p rfl Ev.move ?_
  refine Seq.p rfl (Ev.mapI mp.m_int_uint64 z.uint64 hm.r) ?_
  refine Seq.p rfl (Ev.convW it.uint64 it.int) ?_
  refine Seq.p rfl Ev.move ?_
  refine Seq.p rfl (Ev.mapI mp.m_int_uint64 z.uint64 hm.r) ?_
  refine Seq.p rfl Ev.move ?_
  refine Seq.p rfl (Ev.mapI mp.m_int_uint64 z.uint64 hm.r) ?_
  refine Seq.p rfl Ev.move ?_
  refine Seq.p rfl (Ev.mapI mp.m_int_uint64 z.uint64 hm.r) ?_
  refine Seq.p rfl (Ev.convW it.uint64 it.int) ?_
  refine Seq.p rfl Ev.move ?_
  refine Seq.p rfl (Ev.mapI mp.m_int_uint64 z.uint64 hm.r) ?_
  refine Seq.p rfl (Ev.convW it.uint64 it.api_Errno) ?_
  refine Seq.p rfl (Ev.buildS [_, _, _, _, _, _, _, _, _, _, _, _, _] pl.api_Event z.api_Event) ?_
  refine Seq.storeN [_, _, _, _, _, _, _, _, _, _, _, _, _] sz.api_Event (k := ?_)
  refine Seq.nil ?_
  refine JC.ret ?_
  show retQ _ _ _ _ _ _ _ _
  refine retB1 ag.api_Event (hp := Part.nil _) (hpost := ?_)
  rfl
end Go.Rx
namespace Go.Rx
open Go Go.RowKit
set_option linter.unusedVariables false
set_option linter.unusedSimpArgs false
def evFields1 (e : Event) : List Fld := [wholeF 34 e.seq, wholeF 11 e.id, wholeF 1 (e.member % 18446744073709551616), upToF 54 e.side 255, upToF 40 e.type 255, upToF 44 e.price 4294967295, wholeF 38 e.qty, wholeF 210 e.peak]
def evFields2 (e : Event) : List Fld := [wholeF 34 e.seq, wholeF 11 e.id, wholeF 41 e.target, upToF 103 e.code 4294967295]
def evFields3 (e : Event) : List Fld := [wholeF 34 e.seq, wholeF 11 e.id, wholeF 37 e.other, upToF 54 e.side 255, upToF 44 e.price 4294967295, wholeF 38 e.qty]
def evFields4 (e : Event) : List Fld := [wholeF 34 e.seq, wholeF 11 e.id, wholeF 38 e.qty, upToF 378 e.reason 255]
def evFields5 (e : Event) : List Fld := [wholeF 34 e.seq, wholeF 11 e.id, upToF 44 e.price 4294967295, wholeF 38 e.qty]
def evFieldsF (e : Event) : Option (List Fld) :=
  if e.kind = 1 then some (evFields1 e) else if e.kind = 2 then some (evFields2 e) else if e.kind = 3 then some (evFields3 e) else if e.kind = 4 then some (evFields4 e) else if e.kind = 5 then some (evFields5 e) else none
def EvPost (o : Option (List Fld)) (u : Value) (N : List Chunk) : Prop :=
  match o with
  | none => u = .tuple #[.slice none 0 0, .bool false]
  | some fs => ∃ A c, u = .tuple #[.slice A fs.length c, .bool true] ∧ N = [.own 119 3 (.slice A fs.length c) fs.length (fs.flatMap Fld.enc)]
set_option maxHeartbeats 4000000 in
set_option maxRecDepth 100000 in
theorem msgEventFields {w : World} {e : Event} : Spec Go.Proofs.Tryz.prog 43 #[.agg e.enc.toArray] w [] (EvPost (evFieldsF e)) := by
  refine Spec.enter (fn := Go.Proofs.Tryz.f43) (n := 100) [.agg e.enc.toArray] Go.Proofs.Tryz.func43 (by kernel_rfl) rfl Go.Proofs.Tryz.ntmps43 Go.Proofs.Tryz.results43 rfl (Own.nil _) ?_
  refine JC.rs ?_
  refine Seq.box (cs := [_, _, _, _, _, _, _, _, _, _, _, _, _]) (k := ?_); intro b1
  refine Seq.p rfl Ev.assign ?_
  refine Seq.p rfl Ev.assign ?_
  refine Seq.nil ?_
  refine JC.rs ?_
  refine Seq.p rfl (Ev.faB fd.api_Event_0) ?_
  refine Seq.p rfl (Ev.ldB sc.uint64) ?_
  refine Seq.callP rfl (fun w hw => msgWhole) ?_
  refine Seq.buildSlN [_, _, _] (hsl := sl.sl_message_field) (hz := z.message_field) (k := ?_); intro b8
  refine Seq.re (fun w h => Upd.boxOwn h (n := 1) (size := 3) At.z rfl (by omega)) ?_
  refine Seq.p rfl Ev.assign ?_
  refine Seq.nil ?_
  refine JC.seq ?_
  refine JC.rs ?_
  refine Seq.p rfl (Ev.faB fd.api_Event_1) ?_
  refine Seq.p rfl (Ev.ldB sc.int) ?_
  refine Seq.nil ?_
  refine JC.blk ?_
  refine JC.rs ?_
  refine Seq.p rfl Ev.eq ?_
  refine Seq.p rfl Ev.assign ?_
  refine Seq.nil ?_
  first | refine JC.c (ht := fun c11 => ?_) (hf := fun c11 => ?_) | refine JC.cb (ht := fun c11 => ?_) (hf := fun c11 => ?_)
  · -- then_t11
    refine JC.asE 0 mixed ?_
    refine Any.p 0 rfl (by kernel_rfl) (by kernel_rfl) (by kernel_rfl) rfl Ev.move ?_
    refine Any.p 1 rfl (by kernel_rfl) (by kernel_rfl) (by kernel_rfl) rfl (Ev.faB fd.api_Event_2) ?_
    refine Any.p 2 rfl (by kernel_rfl) (by kernel_rfl) (by kernel_rfl) rfl (Ev.ldB sc.uint64) ?_
    refine Any.call 3 rfl (by kernel_rfl) (by kernel_rfl) (by kernel_rfl) rfl (fun w hw => msgWhole) ?_
    refine Any.p 4 rfl (by kernel_rfl) (by kernel_rfl) (by kernel_rfl) rfl (Ev.faB fd.api_Event_5) ?_
    refine Any.p 5 rfl (by kernel_rfl) (by kernel_rfl) (by kernel_rfl) rfl (Ev.ldB sc.uint32) ?_
    refine Any.p 6 rfl (by kernel_rfl) (by kernel_rfl) (by kernel_rfl) rfl (Ev.convU64W it.uint32 it.uint64) ?_
    refine Any.call 7 rfl (by kernel_rfl) (by kernel_rfl) (by kernel_rfl) rfl (fun w hw => msgWhole) ?_
    refine Any.p 8 rfl (by kernel_rfl) (by kernel_rfl) (by kernel_rfl) rfl (Ev.faB fd.api_Event_6) ?_
    refine Any.p 9 rfl (by kernel_rfl) (by kernel_rfl) (by kernel_rfl) rfl (Ev.ldB sc.int) ?_
    refine Any.call 10 rfl (by kernel_rfl) (by kernel_rfl) (by kernel_rfl) rfl (fun w hw => msgUpTo) ?_
    refine Any.p 11 rfl (by kernel_rfl) (by kernel_rfl) (by kernel_rfl) rfl (Ev.faB fd.api_Event_7) ?_
    refine Any.p 12 rfl (by kernel_rfl) (by kernel_rfl) (by kernel_rfl) rfl (Ev.ldB sc.int) ?_
    refine Any.call 13 rfl (by kernel_rfl) (by kernel_rfl) (by kernel_rfl) rfl (fun w hw => msgUpTo) ?_
    refine Any.p 14 rfl (by kernel_rfl) (by kernel_rfl) (by kernel_rfl) rfl (Ev.faB fd.api_Event_8) ?_
    refine Any.p 15 rfl (by kernel_rfl) (by kernel_rfl) (by kernel_rfl) rfl (Ev.ldB sc.int) ?_
    refine Any.call 16 rfl (by kernel_rfl) (by kernel_rfl) (by kernel_rfl) rfl (fun w hw => msgUpTo) ?_
    refine Any.p 17 rfl (by kernel_rfl) (by kernel_rfl) (by kernel_rfl) rfl (Ev.faB fd.api_Event_9) ?_
    refine Any.p 18 rfl (by kernel_rfl) (by kernel_rfl) (by kernel_rfl) rfl (Ev.ldB sc.uint64) ?_
    refine Any.call 19 rfl (by kernel_rfl) (by kernel_rfl) (by kernel_rfl) rfl (fun w hw => msgWhole) ?_
    refine Any.p 20 rfl (by kernel_rfl) (by kernel_rfl) (by kernel_rfl) rfl (Ev.faB fd.api_Event_10) ?_
    refine Any.p 21 rfl (by kernel_rfl) (by kernel_rfl) (by kernel_rfl) rfl (Ev.ldB sc.uint64) ?_
    refine Any.call 22 rfl (by kernel_rfl) (by kernel_rfl) (by kernel_rfl) rfl (fun w hw => msgWhole) ?_
    refine Any.one 23 rfl (by kernel_rfl) ?_
    refine Seq.buildSlS [_, _, _, _, _, _, _, _, _, _, _, _, _, _, _, _, _, _, _, _, _] (hsl := sl.sl_message_field) (hz := z.message_field) (k := ?_); intro b36
    refine Seq.nil ⟨(by repeat (first | exact Part.refl _ | exact Part.nil _ | apply Part.here | apply Part.skip)), ?_⟩
    refine Any.one 24 rfl (by kernel_rfl) ?_
    refine Seq.append (hsl := sl.sl_message_field) (he := el.message_field) (hsrc := (fun w' hw => Src.box (hl := by rfl) (hc := fun q u hu => hu) sl.sl_message_field At.z hw)) (k := ?_); intro A37 c37
    refine Seq.nil ⟨(by repeat (first | exact Part.refl _ | exact Part.nil _ | apply Part.here | apply Part.skip)), ?_⟩
    refine Any.p 25 rfl (by kernel_rfl) (by kernel_rfl) (by kernel_rfl) rfl Ev.assign ?_
    refine Any.p 26 rfl (by kernel_rfl) (by kernel_rfl) (by kernel_rfl) rfl Ev.assign ?_
    refine Any.done (by kernel_rfl) ?_
    refine JC.ret ?_
    show retQ _ _ _ _ _ _ _ _
    refine ret2 (hp := Part.skip (Part.here (Part.nil _))) (hpost := ?_)
    have hF : evFieldsF e = some (evFields1 e) := by rw [evFieldsF, if_pos c11]
    rw [hF]
    exact ⟨_, _, rfl, rfl⟩
  · -- else_t11
    refine JC.rs ?_
    refine Seq.p rfl Ev.eq ?_
    refine Seq.p rfl Ev.assign ?_
    refine Seq.nil ?_
    first | refine JC.c (ht := fun c38 => ?_) (hf := fun c38 => ?_) | refine JC.cb (ht := fun c38 => ?_) (hf := fun c38 => ?_)
    · -- then_t38
      refine JC.asE 0 mixed ?_
      refine Any.p 0 rfl (by kernel_rfl) (by kernel_rfl) (by kernel_rfl) rfl Ev.move ?_
      refine Any.p 1 rfl (by kernel_rfl) (by kernel_rfl) (by kernel_rfl) rfl (Ev.faB fd.api_Event_2) ?_
      refine Any.p 2 rfl (by kernel_rfl) (by kernel_rfl) (by kernel_rfl) rfl (Ev.ldB sc.uint64) ?_
      refine Any.call 3 rfl (by kernel_rfl) (by kernel_rfl) (by kernel_rfl) rfl (fun w hw => msgWhole) ?_
      refine Any.p 4 rfl (by kernel_rfl) (by kernel_rfl) (by kernel_rfl) rfl (Ev.faB fd.api_Event_4) ?_
      refine Any.p 5 rfl (by kernel_rfl) (by kernel_rfl) (by kernel_rfl) rfl (Ev.ldB sc.uint64) ?_
      refine Any.call 6 rfl (by kernel_rfl) (by kernel_rfl) (by kernel_rfl) rfl (fun w hw => msgWhole) ?_
      refine Any.p 7 rfl (by kernel_rfl) (by kernel_rfl) (by kernel_rfl) rfl (Ev.faB fd.api_Event_12) ?_
      refine Any.p 8 rfl (by kernel_rfl) (by kernel_rfl) (by kernel_rfl) rfl (Ev.ldB sc.api_Errno) ?_
      refine Any.call 9 rfl (by kernel_rfl) (by kernel_rfl) (by kernel_rfl) rfl (fun w hw => msgUpTo) ?_
      refine Any.one 10 rfl (by kernel_rfl) ?_
      refine Seq.buildSlN [_, _, _, _, _, _, _, _, _] (hsl := sl.sl_message_field) (hz := z.message_field) (k := ?_); intro b50
      refine Seq.nil ⟨(by repeat (first | exact Part.refl _ | exact Part.nil _ | apply Part.here | apply Part.skip)), ?_⟩
      refine Any.one 11 rfl (by kernel_rfl) ?_
      refine Seq.append (hsl := sl.sl_message_field) (he := el.message_field) (hsrc := (fun w' hw => Src.box (hl := by rfl) (hc := fun q u hu => hu) sl.sl_message_field At.z hw)) (k := ?_); intro A51 c51
      refine Seq.nil ⟨(by repeat (first | exact Part.refl _ | exact Part.nil _ | apply Part.here | apply Part.skip)), ?_⟩
      refine Any.p 12 rfl (by kernel_rfl) (by kernel_rfl) (by kernel_rfl) rfl Ev.assign ?_
      refine Any.p 13 rfl (by kernel_rfl) (by kernel_rfl) (by kernel_rfl) rfl Ev.assign ?_
      refine Any.done (by kernel_rfl) ?_
      refine JC.ret ?_
      show retQ _ _ _ _ _ _ _ _
      refine ret2 (hp := Part.skip (Part.here (Part.nil _))) (hpost := ?_)
      have hF : evFieldsF e = some (evFields2 e) := by rw [evFieldsF, if_neg c11, if_pos c38]
      rw [hF]
      exact ⟨_, _, rfl, rfl⟩
    · -- else_t38
      refine JC.rs ?_
      refine Seq.p rfl Ev.eq ?_
      refine Seq.p rfl Ev.assign ?_
      refine Seq.nil ?_
      first | refine JC.c (ht := fun c52 => ?_) (hf := fun c52 => ?_) | refine JC.cb (ht := fun c52 => ?_) (hf := fun c52 => ?_)
      · -- then_t52
        refine JC.asE 0 mixed ?_
        refine Any.p 0 rfl (by kernel_rfl) (by kernel_rfl) (by kernel_rfl) rfl Ev.move ?_
        refine Any.p 1 rfl (by kernel_rfl) (by kernel_rfl) (by kernel_rfl) rfl (Ev.faB fd.api_Event_2) ?_
        refine Any.p 2 rfl (by kernel_rfl) (by kernel_rfl) (by kernel_rfl) rfl (Ev.ldB sc.uint64) ?_
        refine Any.call 3 rfl (by kernel_rfl) (by kernel_rfl) (by kernel_rfl) rfl (fun w hw => msgWhole) ?_
        refine Any.p 4 rfl (by kernel_rfl) (by kernel_rfl) (by kernel_rfl) rfl (Ev.faB fd.api_Event_3) ?_
        refine Any.p 5 rfl (by kernel_rfl) (by kernel_rfl) (by kernel_rfl) rfl (Ev.ldB sc.uint64) ?_
        refine Any.call 6 rfl (by kernel_rfl) (by kernel_rfl) (by kernel_rfl) rfl (fun w hw => msgWhole) ?_
        refine Any.p 7 rfl (by kernel_rfl) (by kernel_rfl) (by kernel_rfl) rfl (Ev.faB fd.api_Event_6) ?_
        refine Any.p 8 rfl (by kernel_rfl) (by kernel_rfl) (by kernel_rfl) rfl (Ev.ldB sc.int) ?_
        refine Any.call 9 rfl (by kernel_rfl) (by kernel_rfl) (by kernel_rfl) rfl (fun w hw => msgUpTo) ?_
        refine Any.p 10 rfl (by kernel_rfl) (by kernel_rfl) (by kernel_rfl) rfl (Ev.faB fd.api_Event_8) ?_
        refine Any.p 11 rfl (by kernel_rfl) (by kernel_rfl) (by kernel_rfl) rfl (Ev.ldB sc.int) ?_
        refine Any.call 12 rfl (by kernel_rfl) (by kernel_rfl) (by kernel_rfl) rfl (fun w hw => msgUpTo) ?_
        refine Any.p 13 rfl (by kernel_rfl) (by kernel_rfl) (by kernel_rfl) rfl (Ev.faB fd.api_Event_9) ?_
        refine Any.p 14 rfl (by kernel_rfl) (by kernel_rfl) (by kernel_rfl) rfl (Ev.ldB sc.uint64) ?_
        refine Any.call 15 rfl (by kernel_rfl) (by kernel_rfl) (by kernel_rfl) rfl (fun w hw => msgWhole) ?_
        refine Any.one 16 rfl (by kernel_rfl) ?_
        refine Seq.buildSlS [_, _, _, _, _, _, _, _, _, _, _, _, _, _, _] (hsl := sl.sl_message_field) (hz := z.message_field) (k := ?_); intro b70
        refine Seq.nil ⟨(by repeat (first | exact Part.refl _ | exact Part.nil _ | apply Part.here | apply Part.skip)), ?_⟩
        refine Any.one 17 rfl (by kernel_rfl) ?_
        refine Seq.append (hsl := sl.sl_message_field) (he := el.message_field) (hsrc := (fun w' hw => Src.box (hl := by rfl) (hc := fun q u hu => hu) sl.sl_message_field At.z hw)) (k := ?_); intro A71 c71
        refine Seq.nil ⟨(by repeat (first | exact Part.refl _ | exact Part.nil _ | apply Part.here | apply Part.skip)), ?_⟩
        refine Any.p 18 rfl (by kernel_rfl) (by kernel_rfl) (by kernel_rfl) rfl Ev.assign ?_
        refine Any.p 19 rfl (by kernel_rfl) (by kernel_rfl) (by kernel_rfl) rfl Ev.assign ?_
        refine Any.done (by kernel_rfl) ?_
        refine JC.ret ?_
        show retQ _ _ _ _ _ _ _ _
        refine ret2 (hp := Part.skip (Part.here (Part.nil _))) (hpost := ?_)
        have hF : evFieldsF e = some (evFields3 e) := by rw [evFieldsF, if_neg c11, if_neg c38, if_pos c52]
        rw [hF]
        exact ⟨_, _, rfl, rfl⟩
      · -- else_t52
        refine JC.rs ?_
        refine Seq.p rfl Ev.eq ?_
        refine Seq.p rfl Ev.assign ?_
        refine Seq.nil ?_
        first | refine JC.c (ht := fun c72 => ?_) (hf := fun c72 => ?_) | refine JC.cb (ht := fun c72 => ?_) (hf := fun c72 => ?_)
        · -- then_t72
          refine JC.asE 0 mixed ?_
          refine Any.p 0 rfl (by kernel_rfl) (by kernel_rfl) (by kernel_rfl) rfl Ev.move ?_
          refine Any.p 1 rfl (by kernel_rfl) (by kernel_rfl) (by kernel_rfl) rfl (Ev.faB fd.api_Event_2) ?_
          refine Any.p 2 rfl (by kernel_rfl) (by kernel_rfl) (by kernel_rfl) rfl (Ev.ldB sc.uint64) ?_
          refine Any.call 3 rfl (by kernel_rfl) (by kernel_rfl) (by kernel_rfl) rfl (fun w hw => msgWhole) ?_
          refine Any.p 4 rfl (by kernel_rfl) (by kernel_rfl) (by kernel_rfl) rfl (Ev.faB fd.api_Event_9) ?_
          refine Any.p 5 rfl (by kernel_rfl) (by kernel_rfl) (by kernel_rfl) rfl (Ev.ldB sc.uint64) ?_
          refine Any.call 6 rfl (by kernel_rfl) (by kernel_rfl) (by kernel_rfl) rfl (fun w hw => msgWhole) ?_
          refine Any.p 7 rfl (by kernel_rfl) (by kernel_rfl) (by kernel_rfl) rfl (Ev.faB fd.api_Event_11) ?_
          refine Any.p 8 rfl (by kernel_rfl) (by kernel_rfl) (by kernel_rfl) rfl (Ev.ldB sc.int) ?_
          refine Any.call 9 rfl (by kernel_rfl) (by kernel_rfl) (by kernel_rfl) rfl (fun w hw => msgUpTo) ?_
          refine Any.one 10 rfl (by kernel_rfl) ?_
          refine Seq.buildSlN [_, _, _, _, _, _, _, _, _] (hsl := sl.sl_message_field) (hz := z.message_field) (k := ?_); intro b84
          refine Seq.nil ⟨(by repeat (first | exact Part.refl _ | exact Part.nil _ | apply Part.here | apply Part.skip)), ?_⟩
          refine Any.one 11 rfl (by kernel_rfl) ?_
          refine Seq.append (hsl := sl.sl_message_field) (he := el.message_field) (hsrc := (fun w' hw => Src.box (hl := by rfl) (hc := fun q u hu => hu) sl.sl_message_field At.z hw)) (k := ?_); intro A85 c85
          refine Seq.nil ⟨(by repeat (first | exact Part.refl _ | exact Part.nil _ | apply Part.here | apply Part.skip)), ?_⟩
          refine Any.p 12 rfl (by kernel_rfl) (by kernel_rfl) (by kernel_rfl) rfl Ev.assign ?_
          refine Any.p 13 rfl (by kernel_rfl) (by kernel_rfl) (by kernel_rfl) rfl Ev.assign ?_
          refine Any.done (by kernel_rfl) ?_
          refine JC.ret ?_
          show retQ _ _ _ _ _ _ _ _
          refine ret2 (hp := Part.skip (Part.here (Part.nil _))) (hpost := ?_)
          have hF : evFieldsF e = some (evFields4 e) := by rw [evFieldsF, if_neg c11, if_neg c38, if_neg c52, if_pos c72]
          rw [hF]
          exact ⟨_, _, rfl, rfl⟩
        · -- else_t72
          refine JC.rs ?_
          refine Seq.p rfl Ev.eq ?_
          refine Seq.p rfl Ev.assign ?_
          refine Seq.nil ?_
          first | refine JC.c (ht := fun c86 => ?_) (hf := fun c86 => ?_) | refine JC.cb (ht := fun c86 => ?_) (hf := fun c86 => ?_)
          · -- then_t86
            refine JC.asE 0 mixed ?_
            refine Any.p 0 rfl (by kernel_rfl) (by kernel_rfl) (by kernel_rfl) rfl Ev.move ?_
            refine Any.p 1 rfl (by kernel_rfl) (by kernel_rfl) (by kernel_rfl) rfl (Ev.faB fd.api_Event_2) ?_
            refine Any.p 2 rfl (by kernel_rfl) (by kernel_rfl) (by kernel_rfl) rfl (Ev.ldB sc.uint64) ?_
            refine Any.call 3 rfl (by kernel_rfl) (by kernel_rfl) (by kernel_rfl) rfl (fun w hw => msgWhole) ?_
            refine Any.p 4 rfl (by kernel_rfl) (by kernel_rfl) (by kernel_rfl) rfl (Ev.faB fd.api_Event_8) ?_
            refine Any.p 5 rfl (by kernel_rfl) (by kernel_rfl) (by kernel_rfl) rfl (Ev.ldB sc.int) ?_
            refine Any.call 6 rfl (by kernel_rfl) (by kernel_rfl) (by kernel_rfl) rfl (fun w hw => msgUpTo) ?_
            refine Any.p 7 rfl (by kernel_rfl) (by kernel_rfl) (by kernel_rfl) rfl (Ev.faB fd.api_Event_9) ?_
            refine Any.p 8 rfl (by kernel_rfl) (by kernel_rfl) (by kernel_rfl) rfl (Ev.ldB sc.uint64) ?_
            refine Any.call 9 rfl (by kernel_rfl) (by kernel_rfl) (by kernel_rfl) rfl (fun w hw => msgWhole) ?_
            refine Any.one 10 rfl (by kernel_rfl) ?_
            refine Seq.buildSlN [_, _, _, _, _, _, _, _, _] (hsl := sl.sl_message_field) (hz := z.message_field) (k := ?_); intro b98
            refine Seq.nil ⟨(by repeat (first | exact Part.refl _ | exact Part.nil _ | apply Part.here | apply Part.skip)), ?_⟩
            refine Any.one 11 rfl (by kernel_rfl) ?_
            refine Seq.append (hsl := sl.sl_message_field) (he := el.message_field) (hsrc := (fun w' hw => Src.box (hl := by rfl) (hc := fun q u hu => hu) sl.sl_message_field At.z hw)) (k := ?_); intro A99 c99
            refine Seq.nil ⟨(by repeat (first | exact Part.refl _ | exact Part.nil _ | apply Part.here | apply Part.skip)), ?_⟩
            refine Any.p 12 rfl (by kernel_rfl) (by kernel_rfl) (by kernel_rfl) rfl Ev.assign ?_
            refine Any.p 13 rfl (by kernel_rfl) (by kernel_rfl) (by kernel_rfl) rfl Ev.assign ?_
            refine Any.done (by kernel_rfl) ?_
            refine JC.ret ?_
            show retQ _ _ _ _ _ _ _ _
            refine ret2 (hp := Part.skip (Part.here (Part.nil _))) (hpost := ?_)
            have hF : evFieldsF e = some (evFields5 e) := by rw [evFieldsF, if_neg c11, if_neg c38, if_neg c52, if_neg c72, if_pos c86]
            rw [hF]
            exact ⟨_, _, rfl, rfl⟩
          · -- else_t86
            refine JC.skip ?_
            refine JC.rs ?_
            refine Seq.p rfl Ev.assign ?_
            refine Seq.p rfl Ev.assign ?_
            refine Seq.nil ?_
            refine JC.ret ?_
            show retQ _ _ _ _ _ _ _ _
            refine ret2 (hp := Part.nil _) (hpost := ?_)
            have hF : evFieldsF e = none := by rw [evFieldsF, if_neg c11, if_neg c38, if_neg c52, if_neg c72, if_neg c86]
            rw [hF]
            rfl
def toldRF (k : Int) : List RF :=
  if k = 1 then [⟨34, 0, 0, 0⟩, ⟨11, 0, 1, 0⟩, ⟨1, 4294967295, 3, 0⟩, ⟨54, 255, 3, 32⟩, ⟨40, 255, 3, 40⟩, ⟨44, 4294967295, 4, 0⟩, ⟨38, 0, 5, 0⟩, ⟨210, 0, 6, 0⟩]
  else if k = 2 then [⟨34, 0, 0, 0⟩, ⟨11, 0, 1, 0⟩, ⟨41, 0, 2, 0⟩, ⟨103, 4294967295, 4, 32⟩]
  else if k = 3 then [⟨34, 0, 0, 0⟩, ⟨11, 0, 1, 0⟩, ⟨37, 0, 2, 0⟩, ⟨54, 255, 3, 32⟩, ⟨44, 4294967295, 4, 0⟩, ⟨38, 0, 5, 0⟩]
  else if k = 4 then [⟨34, 0, 0, 0⟩, ⟨11, 0, 1, 0⟩, ⟨38, 0, 5, 0⟩, ⟨378, 255, 3, 48⟩]
  else if k = 5 then [⟨34, 0, 0, 0⟩, ⟨11, 0, 1, 0⟩, ⟨44, 4294967295, 4, 0⟩, ⟨38, 0, 5, 0⟩]
  else []
end Go.Rx
namespace Go.Rx
open Go Go.RowKit
set_option linter.unusedVariables false
set_option linter.unusedSimpArgs false
def toldEvE (e : Event) : Int := match evFieldsF e with | none => 41 | some fs => if fs.all (·.fits) = true ∧ eventOfF e.kind (numsF fs) = e then 0 else 40
def EvToldPost (e : Event) (u : Value) (N : List Chunk) : Prop :=
  if toldEvE e = 0 then ∃ fs A c b, evFieldsF e = some fs ∧ u = .tuple #[.slice A fs.length c, .map (some b), .int .i64 0] ∧ N = [.mi b .i64 .u64 (numsF fs), .own 119 3 (.slice A fs.length c) fs.length (fs.flatMap Fld.enc)]
  else u = .tuple #[.slice none 0 0, .map none, .int .i64 (toldEvE e)]
theorem evFieldsF_small {e : Event} {fs : List Fld} (h : evFieldsF e = some fs) : fs.length ≤ 8 ∧ 1 ≤ e.kind ∧ e.kind ≤ 5 := by
  unfold evFieldsF at h
  repeat (first | (split at h) | (simp only [Option.some.injEq] at h; subst h; exact ⟨Nat.le_of_ble_eq_true rfl, by omega, by omega⟩) | cases h)
set_option maxHeartbeats 2000000 in
theorem msgToldEv0 {w : World} {e : Event} (hF : evFieldsF e = none) : Spec Go.Proofs.Tryz.prog 39 #[.agg e.enc.toArray] w [] (EvToldPost e) := by
  have hE : toldEvE e = 41 := by unfold toldEvE; rw [hF]
  refine Spec.enter (fn := Go.Proofs.Tryz.f39) (n := 32) [.agg e.enc.toArray] Go.Proofs.Tryz.func39 (by kernel_rfl) rfl Go.Proofs.Tryz.ntmps39 Go.Proofs.Tryz.results39 rfl (Own.nil _) ?_
  refine JC.rs ?_
  refine Seq.box (cs := [_, _, _, _, _, _, _, _, _, _, _, _, _]) (k := ?_); intro b1
  refine Seq.p rfl Ev.assign ?_
  refine Seq.p rfl Ev.assign ?_
  refine Seq.p rfl Ev.assign ?_
  refine Seq.nil ?_
  refine JC.rs ?_
  refine Seq.p rfl (Ev.ldBA ag.api_Event) ?_
  refine Seq.call rfl (fun w hw => hF ▸ msgEventFields) (F := _) (by exact List.Perm.refl _) ?_
  rintro _ N rfl
  refine Seq.p rfl Ev.move ?_
  refine Seq.p rfl Ev.extract ?_
  refine Seq.p rfl Ev.extract ?_
  refine Seq.p rfl Ev.assign ?_
  refine Seq.p rfl Ev.assign ?_
  refine Seq.nil ?_
  refine JC.seq ?_
  refine JC.rs ?_
  refine Seq.p rfl Ev.move ?_
  refine Seq.p rfl Ev.not ?_
  refine Seq.nil ?_
  first | refine JC.c (ht := fun c14 => ?_) (hf := fun c14 => ?_) | refine JC.cb (ht := fun c14 => ?_) (hf := fun c14 => ?_)
  · -- then_t14
    refine JC.rs ?_
    refine Seq.p rfl Ev.assign ?_
    refine Seq.p rfl Ev.assign ?_
    refine Seq.p rfl Ev.assign ?_
    refine Seq.nil ?_
    refine JC.ret ?_
    show retQ _ _ _ _ _ _ _ _
    refine ret3 (hp := Part.nil _) (hpost := ?_)
    show EvToldPost _ _ _
    rw [EvToldPost, if_neg (by rw [hE]; decide), hE]
  · -- else_t14
    cases c14
set_option maxHeartbeats 2000000 in
theorem msgToldEv1 {w : World} {e : Event} {fs : List Fld} (hF : evFieldsF e = some fs) (hn : ¬ fs.all (·.fits) = true) : Spec Go.Proofs.Tryz.prog 39 #[.agg e.enc.toArray] w [] (EvToldPost e) := by
  have hE : toldEvE e = 40 := by unfold toldEvE; rw [hF]; exact if_neg (fun h => hn h.1)
  have hsm := (evFieldsF_small hF).1
  refine Spec.enter (fn := Go.Proofs.Tryz.f39) (n := 32) [.agg e.enc.toArray] Go.Proofs.Tryz.func39 (by kernel_rfl) rfl Go.Proofs.Tryz.ntmps39 Go.Proofs.Tryz.results39 rfl (Own.nil _) ?_
  refine JC.rs ?_
  refine Seq.box (cs := [_, _, _, _, _, _, _, _, _, _, _, _, _]) (k := ?_); intro b1
  refine Seq.p rfl Ev.assign ?_
  refine Seq.p rfl Ev.assign ?_
  refine Seq.p rfl Ev.assign ?_
  refine Seq.nil ?_
  refine JC.rs ?_
  refine Seq.p rfl (Ev.ldBA ag.api_Event) ?_
  refine Seq.call rfl (fun w hw => hF ▸ msgEventFields) (F := _) (by exact List.Perm.refl _) ?_
  rintro _ _ ⟨A, cc, rfl, rfl⟩
  refine Seq.p rfl Ev.move ?_
  refine Seq.p rfl Ev.extract ?_
  refine Seq.p rfl Ev.extract ?_
  refine Seq.p rfl Ev.assign ?_
  refine Seq.p rfl Ev.assign ?_
  refine Seq.nil ?_
  refine JC.seq ?_
  refine JC.rs ?_
  refine Seq.p rfl Ev.move ?_
  refine Seq.p rfl Ev.not ?_
  refine Seq.nil ?_
  first | refine JC.c (ht := fun c14 => ?_) (hf := fun c14 => ?_) | refine JC.cb (ht := fun c14 => ?_) (hf := fun c14 => ?_)
  · -- then_t14
    cases c14
  · -- else_t14
    refine JC.skip ?_
    refine JC.rs ?_
    refine Seq.p rfl Ev.move ?_
    refine Seq.call rfl (fun w hw => msgNumbers (RAt.up (RAt.own (enc := Fld.enc) (xs := fs) (sz := 3) (hs := by omega)) hw)) (F := _) (by exact List.Perm.refl _) ?_
    intro u N hN
    rw [NumsPost, if_neg hn] at hN
    subst hN
    refine Seq.p rfl Ev.move ?_
    refine Seq.p rfl Ev.extract ?_
    refine Seq.p rfl Ev.extract ?_
    refine Seq.p rfl Ev.assign ?_
    refine Seq.p rfl Ev.assign ?_
    refine Seq.nil ?_
    refine JC.seq ?_
    refine JC.qs mixed (by kernel_rfl) ?_
    refine Qui.p rfl Ev.move ?_
    refine Qui.p rfl Ev.not ?_
    refine Qui.p rfl Ev.move ?_
    refine Qui.split (d := 22) (k := ?_)
    rintro (_|_) h22
    · try simp only [decide_eq_true_eq, decide_eq_false_iff_not] at h22
      cases h22
    · try simp only [decide_eq_true_eq, decide_eq_false_iff_not] at h22
      refine Qui.gn rfl rfl rfl rfl ?_
      refine Qui.gn rfl rfl rfl rfl ?_
      refine Qui.gn rfl rfl rfl rfl ?_
      refine Qui.gn rfl rfl rfl rfl ?_
      refine Qui.gn rfl rfl rfl rfl ?_
      refine Qui.gn rfl rfl rfl rfl ?_
      refine Qui.p rfl Ev.pickT ?_
      refine Qui.nil ?_
      refine JC.cT (h := ?_)
      refine JC.rs ?_
      refine Seq.p rfl Ev.assign ?_
      refine Seq.p rfl Ev.assign ?_
      refine Seq.p rfl Ev.assign ?_
      refine Seq.nil ?_
      refine JC.ret ?_
      show retQ _ _ _ _ _ _ _ _
      refine ret3 (hp := Part.nil _) (hpost := ?_)
      show EvToldPost _ _ _
      rw [EvToldPost, if_neg (by rw [hE]; decide), hE]
set_option maxHeartbeats 2000000 in
theorem msgToldEv2 {w : World} {e : Event} {fs : List Fld} (hF : evFieldsF e = some fs) (hn : fs.all (·.fits) = true) : Spec Go.Proofs.Tryz.prog 39 #[.agg e.enc.toArray] w [] (EvToldPost e) := by
  have hE : toldEvE e = if eventOfF e.kind (numsF fs) = e then 0 else 40 := by
    unfold toldEvE
    rw [hF]
    simp only [hn, true_and]
  have hsm := (evFieldsF_small hF).1
  refine Spec.enter (fn := Go.Proofs.Tryz.f39) (n := 32) [.agg e.enc.toArray] Go.Proofs.Tryz.func39 (by kernel_rfl) rfl Go.Proofs.Tryz.ntmps39 Go.Proofs.Tryz.results39 rfl (Own.nil _) ?_
  refine JC.rs ?_
  refine Seq.box (cs := [_, _, _, _, _, _, _, _, _, _, _, _, _]) (k := ?_); intro b1
  refine Seq.p rfl Ev.assign ?_
  refine Seq.p rfl Ev.assign ?_
  refine Seq.p rfl Ev.assign ?_
  refine Seq.nil ?_
  refine JC.rs ?_
  refine Seq.p rfl (Ev.ldBA ag.api_Event) ?_
  refine Seq.call rfl (fun w hw => hF ▸ msgEventFields) (F := _) (by exact List.Perm.refl _) ?_
  rintro _ _ ⟨A, cc, rfl, rfl⟩
  refine Seq.p rfl Ev.move ?_
  refine Seq.p rfl Ev.extract ?_
  refine Seq.p rfl Ev.extract ?_
  refine Seq.p rfl Ev.assign ?_
  refine Seq.p rfl Ev.assign ?_
  refine Seq.nil ?_
  refine JC.seq ?_
  refine JC.rs ?_
  refine Seq.p rfl Ev.move ?_
  refine Seq.p rfl Ev.not ?_
  refine Seq.nil ?_
  first | refine JC.c (ht := fun c14 => ?_) (hf := fun c14 => ?_) | refine JC.cb (ht := fun c14 => ?_) (hf := fun c14 => ?_)
  · -- then_t14
    cases c14
  · -- else_t14
    refine JC.skip ?_
    refine JC.rs ?_
    refine Seq.p rfl Ev.move ?_
    refine Seq.call rfl (fun w hw => msgNumbers (RAt.up (RAt.own (enc := Fld.enc) (xs := fs) (sz := 3) (hs := by omega)) hw)) (F := _) (by exact List.Perm.refl _) ?_
    intro u N hN
    rw [NumsPost, if_pos hn] at hN
    obtain ⟨bn, rfl, rfl⟩ := hN
    refine Seq.p rfl Ev.move ?_
    refine Seq.p rfl Ev.extract ?_
    refine Seq.p rfl Ev.extract ?_
    refine Seq.p rfl Ev.assign ?_
    refine Seq.p rfl Ev.assign ?_
    refine Seq.nil ?_
    refine JC.seq ?_
    refine JC.qs mixed (by kernel_rfl) ?_
    refine Qui.p rfl Ev.move ?_
    refine Qui.p rfl Ev.not ?_
    refine Qui.p rfl Ev.move ?_
    refine Qui.split (d := 22) (k := ?_)
    rintro (_|_) h22
    · try simp only [decide_eq_true_eq, decide_eq_false_iff_not] at h22
      refine Qui.gy rfl rfl rfl ?_
      refine Qui.p rfl (Ev.faB fd.api_Event_1) ?_
      refine Qui.gy rfl rfl rfl ?_
      refine Qui.p rfl (Ev.ldB sc.int) ?_
      refine Qui.gy rfl rfl rfl ?_
      refine Qui.p rfl Ev.move ?_
      refine Qui.gy rfl rfl rfl ?_
      refine Qui.call rfl (fun w hw => msgEventOf (RM.up RM.own hw)) ?_
      refine Qui.gy rfl rfl rfl ?_
      refine Qui.p rfl (Ev.ldBA ag.api_Event) ?_
      refine Qui.gy rfl rfl rfl ?_
      refine Qui.p rfl (Ev.neAg so.api_Event ag.api_Event gd.api_Event) ?_
      refine Qui.p rfl Ev.pickF ?_
      refine Qui.nil ?_
      first | refine JC.c (ht := fun c29 => ?_) (hf := fun c29 => ?_) | refine JC.cb (ht := fun c29 => ?_) (hf := fun c29 => ?_)
      · -- then_t29
        have c35 : (!eqL (eventOfF e.kind (numsF fs)).enc e.enc) = true := c29
        rw [Event.eqL_enc] at c35
        have hne : ¬ eventOfF e.kind (numsF fs) = e := by simpa using c35
        rw [if_neg hne] at hE
        refine JC.rs ?_
        refine Seq.p rfl Ev.assign ?_
        refine Seq.p rfl Ev.assign ?_
        refine Seq.p rfl Ev.assign ?_
        refine Seq.nil ?_
        refine JC.ret ?_
        show retQ _ _ _ _ _ _ _ _
        refine ret3 (hp := Part.nil _) (hpost := ?_)
        show EvToldPost _ _ _
        rw [EvToldPost, if_neg (by rw [hE]; decide), hE]
      · -- else_t29
        have c35 : (!eqL (eventOfF e.kind (numsF fs)).enc e.enc) = false := c29
        rw [Event.eqL_enc] at c35
        have heq : eventOfF e.kind (numsF fs) = e := of_ndec c35
        rw [if_pos heq] at hE
        refine JC.skip ?_
        refine JC.rs ?_
        refine Seq.p rfl Ev.move ?_
        refine Seq.p rfl Ev.move ?_
        refine Seq.p rfl Ev.assign ?_
        refine Seq.p rfl Ev.assign ?_
        refine Seq.p rfl Ev.assign ?_
        refine Seq.nil ?_
        refine JC.ret ?_
        show retQ _ _ _ _ _ _ _ _
        refine ret3 (H' := [.mi bn .i64 .u64 (numsF fs), .own 119 3 (.slice A fs.length cc) fs.length (fs.flatMap Fld.enc)]) (hp := Part.here (Part.here (Part.nil _))) (hpost := ?_)
        show EvToldPost _ _ _
        rw [EvToldPost, if_pos hE]
        exact ⟨fs, A, cc, bn, hF, rfl, rfl⟩
    · try simp only [decide_eq_true_eq, decide_eq_false_iff_not] at h22
      cases h22
theorem msgToldEv {w : World} {e : Event} : Spec Go.Proofs.Tryz.prog 39 #[.agg e.enc.toArray] w [] (EvToldPost e) := by
  rcases hF : evFieldsF e with _ | fs
  · exact msgToldEv0 hF
  · by_cases hn : fs.all (·.fits) = true
    · exact msgToldEv2 hF hn
    · exact msgToldEv1 hF hn
def evFrameF (k : Int) (ms : List (Int × Int)) : Frame :=
  ⟨(64 + k) % 256, [iget ms 34, iget ms 11, add64 (iget ms 37) (iget ms 41), add64 (add64 (add64 (iget ms 1) (up (iget ms 54) 32)) (up (iget ms 40) 40)) (up (iget ms 378) 48), add64 (iget ms 44) (up (iget ms 103) 32), iget ms 38, iget ms 210]⟩
def packEvF (e : Event) : Frame × Int := if toldEvE e = 0 then (match evFieldsF e with | some fs => evFrameF e.kind (numsF fs) | none => frame0, 0) else (frame0, toldEvE e)
set_option maxHeartbeats 2000000 in
theorem msgPackEv0 {w : World} {e : Event} (hE : ¬ toldEvE e = 0) : Spec Go.Proofs.Tryz.prog 15 #[.agg e.enc.toArray] w [] (fun u _ => u = packV (packEvF e)) := by
  refine Spec.enter (fn := Go.Proofs.Tryz.f15) (n := 56) [.agg e.enc.toArray] Go.Proofs.Tryz.func15 (by kernel_rfl) rfl Go.Proofs.Tryz.ntmps15 Go.Proofs.Tryz.results15 rfl (Own.nil _) ?_
  refine JC.rs ?_
  refine Seq.box (cs := [_, _, _, _, _, _, _, _, _, _, _, _, _]) (k := ?_); intro b1
  refine Seq.alloc (cs := [_, _, _, _, _, _, _, _]) (hz := z.api_Frame) (k := ?_); intro b2
  refine Seq.p rfl Ev.assign ?_
  refine Seq.nil ?_
  refine JC.rs ?_
  refine Seq.p rfl (Ev.ldBA ag.api_Event) ?_
  refine Seq.call rfl (fun w hw => msgToldEv) (F := _) (by exact List.Perm.refl _) ?_
  intro u N hN
  rw [EvToldPost, if_neg hE] at hN
  subst hN
  refine Seq.re (fun w h => h.part ⟨N, List.perm_append_comm⟩) ?_
  refine Seq.p rfl Ev.move ?_
  refine Seq.p rfl Ev.extract ?_
  refine Seq.p rfl Ev.extract ?_
  refine Seq.p rfl Ev.extract ?_
  refine Seq.p rfl Ev.assign ?_
  refine Seq.p rfl Ev.assign ?_
  refine Seq.p rfl Ev.assign ?_
  refine Seq.nil ?_
  refine JC.seq ?_
  refine JC.rs ?_
  refine Seq.p rfl Ev.move ?_
  refine Seq.p rfl Ev.ne ?_
  refine Seq.nil ?_
  first | refine JC.c (ht := fun c14 => ?_) (hf := fun c14 => ?_) | refine JC.cb (ht := fun c14 => ?_) (hf := fun c14 => ?_)
  · -- then_t14
    refine JC.rs ?_
    refine Seq.p rfl (Ev.buildN [_, _, _, _, _, _, _, _] pl.api_Frame z.api_Frame) ?_
    refine Seq.p rfl Ev.move ?_
    refine Seq.storeN [_, _, _, _, _, _, _, _] sz.api_Frame (k := ?_)
    refine Seq.p rfl Ev.assign ?_
    refine Seq.nil ?_
    refine JC.ret ?_
    show retQ _ _ _ _ _ _ _ _
    refine retB2 ag.api_Frame (hp := Part.nil _) (hpost := ?_)
    rw [packEvF, if_neg hE]
    rfl
  · -- else_t14
    exact absurd hE c14
set_option maxHeartbeats 4000000 in
theorem msgPackEv1 {w : World} {e : Event} (hE : toldEvE e = 0) : Spec Go.Proofs.Tryz.prog 15 #[.agg e.enc.toArray] w [] (fun u _ => u = packV (packEvF e)) := by
  refine Spec.enter (fn := Go.Proofs.Tryz.f15) (n := 56) [.agg e.enc.toArray] Go.Proofs.Tryz.func15 (by kernel_rfl) rfl Go.Proofs.Tryz.ntmps15 Go.Proofs.Tryz.results15 rfl (Own.nil _) ?_
  refine JC.rs ?_
  refine Seq.box (cs := [_, _, _, _, _, _, _, _, _, _, _, _, _]) (k := ?_); intro b1
  refine Seq.alloc (cs := [_, _, _, _, _, _, _, _]) (hz := z.api_Frame) (k := ?_); intro b2
  refine Seq.p rfl Ev.assign ?_
  refine Seq.nil ?_
  refine JC.rs ?_
  refine Seq.p rfl (Ev.ldBA ag.api_Event) ?_
  refine Seq.call rfl (fun w hw => msgToldEv) (F := _) (by exact List.Perm.refl _) ?_
  intro u N hN
  rw [EvToldPost, if_pos hE] at hN
  obtain ⟨fs, A, cc, b3, hF, rfl, rfl⟩ := hN
  have hkd := (evFieldsF_small hF).2
  refine Seq.p rfl Ev.move ?_
  refine Seq.p rfl Ev.extract ?_
  refine Seq.p rfl Ev.extract ?_
  refine Seq.p rfl Ev.extract ?_
  refine Seq.p rfl Ev.assign ?_
  refine Seq.p rfl Ev.assign ?_
  refine Seq.p rfl Ev.assign ?_
  refine Seq.nil ?_
  refine JC.seq ?_
  refine JC.rs ?_
  refine Seq.p rfl Ev.move ?_
  refine Seq.p rfl Ev.ne ?_
  refine Seq.nil ?_
  first | refine JC.c (ht := fun c14 => ?_) (hf := fun c14 => ?_) | refine JC.cb (ht := fun c14 => ?_) (hf := fun c14 => ?_)
  · -- then_t14
    exact absurd rfl c14
  · -- else_t14
    refine JC.skip ?_
    refine JC.rs ?_
    refine Seq.p rfl (Ev.faB fd.api_Event_1) ?_
    refine Seq.p rfl (Ev.ldB sc.int) ?_
    refine Seq.p rfl Ev.add ?_
    refine Seq.p rfl (Ev.convU8W it.int it.uint8) ?_
    refine Seq.p rfl Ev.move ?_
    refine Seq.p rfl (Ev.mapI mp.m_int_uint64 z.uint64 RM.own) ?_
    refine Seq.p rfl Ev.move ?_
    refine Seq.p rfl (Ev.mapI mp.m_int_uint64 z.uint64 RM.own) ?_
    refine Seq.p rfl Ev.move ?_
    refine Seq.p rfl (Ev.mapI mp.m_int_uint64 z.uint64 RM.own) ?_
    refine Seq.p rfl Ev.move ?_
    refine Seq.p rfl (Ev.mapI mp.m_int_uint64 z.uint64 RM.own) ?_
    refine Seq.p rfl Ev.addU ?_
    refine Seq.p rfl Ev.move ?_
    refine Seq.p rfl (Ev.mapI mp.m_int_uint64 z.uint64 RM.own) ?_
    refine Seq.p rfl Ev.move ?_
    refine Seq.p rfl (Ev.mapI mp.m_int_uint64 z.uint64 RM.own) ?_
    refine Seq.p rfl Ev.shlW ?_
    refine Seq.p rfl Ev.addU ?_
    refine Seq.p rfl Ev.move ?_
    refine Seq.p rfl (Ev.mapI mp.m_int_uint64 z.uint64 RM.own) ?_
    refine Seq.p rfl Ev.shlW ?_
    refine Seq.p rfl Ev.addU ?_
    refine Seq.p rfl Ev.move ?_
    refine Seq.p rfl (Ev.mapI mp.m_int_uint64 z.uint64 RM.own) ?_
    refine Seq.p rfl Ev.shlW ?_
    refine Seq.p rfl Ev.addU ?_
    refine Seq.p rfl Ev.move ?_
    refine Seq.p rfl (Ev.mapI mp.m_int_uint64 z.uint64 RM.own) ?_
    refine Seq.p rfl Ev.move ?_
    refine Seq.p rfl (Ev.mapI mp.m_int_uint64 z.uint64 RM.own) ?_
    refine Seq.p rfl Ev.shlW ?_
    refine Seq.p rfl Ev.addU ?_
    refine Seq.p rfl Ev.move ?_
    refine Seq.p rfl (Ev.mapI mp.m_int_uint64 z.uint64 RM.own) ?_
    refine Seq.p rfl Ev.move ?_
    refine Seq.p rfl (Ev.mapI mp.m_int_uint64 z.uint64 RM.own) ?_
    refine Seq.p rfl (Ev.buildArrN [_, _, _, _, _, _, _] ar.a7_uint64 z.a7_uint64) ?_
    refine Seq.p rfl (Ev.buildN [_, _, _, _, _, _, _, _] pl.api_Frame z.api_Frame) ?_
    refine Seq.storeN [_, _, _, _, _, _, _, _] sz.api_Frame (k := ?_)
    refine Seq.p rfl Ev.assign ?_
    refine Seq.nil ?_
    refine JC.ret ?_
    show retQ _ _ _ _ _ _ _ _
    refine retB2 ag.api_Frame (hp := Part.nil _) (hpost := ?_)
    rw [packEvF, if_pos hE, hF]
    rfl
theorem msgPackEv {w : World} {e : Event} : Spec Go.Proofs.Tryz.prog 15 #[.agg e.enc.toArray] w [] (fun u _ => u = packV (packEvF e)) := by
  by_cases hE : toldEvE e = 0
  · exact msgPackEv1 hE
  · exact msgPackEv0 hE
end Go.Rx
namespace Go.Rx
open Go Go.RowKit
set_option linter.unusedVariables false
set_option linter.unusedSimpArgs false
def evStepF (i : Event) (f : RF) (s : Event × List Int) : Option (Event × List Int) :=
  if (eventValueF i f.tag).2 = false then none else if 0 < f.most ∧ f.most < (eventValueF i f.tag).1 then none else some (withEventF s.1 f.tag (eventValueF i f.tag).1, s.2 ++ [(eventValueF i f.tag).1])
def evValsGo (i : Event) : List RF → Event × List Int → Option (Event × List Int)
  | [], s => some s
  | f :: r, s => match evStepF i f s with | none => none | some s' => evValsGo i r s'
def ev0 (k : Int) : Event := ⟨0, k, 0, 0, 0, 0, 0, 0, 0, 0, 0, 0, 0⟩
def refEvE (i : Event) : Int :=
  if ¬ (1 ≤ i.kind ∧ i.kind ≤ 5) then 41 else match evValsGo i (toldRF i.kind) (ev0 i.kind, []) with | none => 40 | some s => if s.1 = i then 0 else 40
def EvValuesPost (i : Event) (u : Value) (N : List Chunk) : Prop :=
  if refEvE i = 0 then ∃ s A c, (1 ≤ i.kind ∧ i.kind ≤ 5) ∧ evValsGo i (toldRF i.kind) (ev0 i.kind, []) = some s ∧ u = .tuple #[.slice A s.2.length c, .int .i64 0] ∧ N = [.own 24 1 (.slice A s.2.length c) s.2.length (s.2.flatMap uenc)]
  else u = .tuple #[.slice none 0 0, .int .i64 (refEvE i)]
theorem toldRF_small (k : Int) : (toldRF k).length ≤ 8 := by
  unfold toldRF
  repeat (first | exact Nat.le_of_ble_eq_true rfl | split)
theorem toldRF_pos {k : Int} (hk : 1 ≤ k ∧ k ≤ 5) : 1 ≤ (toldRF k).length := by
  have : k = 1 ∨ k = 2 ∨ k = 3 ∨ k = 4 ∨ k = 5 := by omega
  rcases this with rfl | rfl | rfl | rfl | rfl <;> exact Nat.le_of_ble_eq_true rfl
def refPackEvF (i : Event) : Frame × Int :=
  if refEvE i = 0 then (match evValsGo i (toldRF i.kind) (ev0 i.kind, []) with | some s => laidF (64 + i.kind) (toldRF i.kind) s.2 | none => frame0, 0) else (frame0, refEvE i)
end Go.Rx
namespace Go.Rx
open Go Go.RowKit
set_option linter.unusedVariables false
set_option linter.unusedSimpArgs false
structure Event.Wf (e : Event) : Prop where
  seq : 0 ≤ e.seq ∧ e.seq ≤ 18446744073709551615
  id : 0 ≤ e.id ∧ e.id ≤ 18446744073709551615
  other : 0 ≤ e.other ∧ e.other ≤ 18446744073709551615
  target : 0 ≤ e.target ∧ e.target ≤ 18446744073709551615
  member : 0 ≤ e.member ∧ e.member ≤ 4294967295
  side : -9223372036854775808 ≤ e.side ∧ e.side ≤ 9223372036854775807
  type : -9223372036854775808 ≤ e.type ∧ e.type ≤ 9223372036854775807
  price : -9223372036854775808 ≤ e.price ∧ e.price ≤ 9223372036854775807
  qty : 0 ≤ e.qty ∧ e.qty ≤ 18446744073709551615
  peak : 0 ≤ e.peak ∧ e.peak ≤ 18446744073709551615
  reason : -9223372036854775808 ≤ e.reason ∧ e.reason ≤ 9223372036854775807
  code : -9223372036854775808 ≤ e.code ∧ e.code ≤ 9223372036854775807
theorem evStep_small {i : Event} {f : RF} {s : Event × List Int} {n : Int} (hn : -9223372036854775808 ≤ n ∧ n ≤ 9223372036854775807) (hv : eventValueF i f.tag = (n % 18446744073709551616, decide (0 ≤ n))) (hm : 0 < f.most ∧ f.most ≤ 4294967295) :
    evStepF i f s = if 0 ≤ n ∧ n ≤ f.most then some (withEventF s.1 f.tag (n % 18446744073709551616), s.2 ++ [n % 18446744073709551616]) else none := by
  unfold evStepF
  rw [hv]
  by_cases h0 : 0 ≤ n
  · have e1 : n % 18446744073709551616 = n := Int.emod_eq_of_lt h0 (by omega)
    simp only [e1, h0, decide_true, true_and]
    by_cases h1 : n ≤ f.most
    · rw [if_pos h1, if_neg (by simp), if_neg (by omega)]
    · rw [if_neg h1, if_neg (by simp), if_pos ⟨hm.1, by omega⟩]
  · rw [if_pos (by simp [h0]), if_neg (fun h => h0 h.1)]
theorem evStep_any {i : Event} {f : RF} {s : Event × List Int} {n : Int} (hv : eventValueF i f.tag = (n, true)) (hm : f.most = 0 ∨ n ≤ f.most) :
    evStepF i f s = some (withEventF s.1 f.tag n, s.2 ++ [n]) := by
  unfold evStepF
  rw [hv, if_neg (by simp), if_neg (by simp only; omega)]
theorem packEv_err {i : Event} {e : Int} (he : e ≠ 0) (h1 : toldEvE i = e) (h2 : refEvE i = e) : packEvF i = refPackEvF i := by
  rw [packEvF, refPackEvF, if_neg (by rw [h1]; exact he), if_neg (by rw [h2]; exact he), h1, h2]
theorem add64_add0 (a b : Int) : add64 (add64 a b) 0 = add64 a b := add64_zero' (add64_range a b)
theorem packEv_1 {e : Event} (hw : e.Wf) (h1 : e.kind = 1) : packEvF e = refPackEvF e := by
  have hF : evFieldsF e = some (evFields1 e) := by rw [evFieldsF, if_pos h1]
  have hR : refEvE e = match evValsGo e (toldRF 1) (ev0 1, []) with | none => 40 | some s => if s.1 = e then 0 else 40 := by
    rw [refEvE, if_neg (by omega), h1]
    all_goals rfl
  have hm := hw.member
  have em : e.member % 18446744073709551616 = e.member := Int.emod_eq_of_lt hm.1 (by omega)
  have em2 : e.member % 4294967296 = e.member := Int.emod_eq_of_lt hm.1 (by omega)
  have v0 : ∀ s, evStepF e ⟨34, 0, 0, 0⟩ s = _ := fun s => evStep_any (n := e.seq) rfl (.inl rfl)
  have v1 : ∀ s, evStepF e ⟨11, 0, 1, 0⟩ s = _ := fun s => evStep_any (n := e.id) rfl (.inl rfl)
  have v2 : ∀ s, evStepF e ⟨1, 4294967295, 3, 0⟩ s = _ := fun s => evStep_any (n := e.member % 18446744073709551616) rfl (.inr (by rw [em]; exact hm.2))
  have v3 : ∀ s, evStepF e ⟨54, 255, 3, 32⟩ s = _ := fun s => evStep_small hw.side rfl (by decide)
  have v4 : ∀ s, evStepF e ⟨40, 255, 3, 40⟩ s = _ := fun s => evStep_small hw.type rfl (by decide)
  have v5 : ∀ s, evStepF e ⟨44, 4294967295, 4, 0⟩ s = _ := fun s => evStep_small hw.price rfl (by decide)
  have v6 : ∀ s, evStepF e ⟨38, 0, 5, 0⟩ s = _ := fun s => evStep_any (n := e.qty) rfl (.inl rfl)
  have v7 : ∀ s, evStepF e ⟨210, 0, 6, 0⟩ s = _ := fun s => evStep_any (n := e.peak) rfl (.inl rfl)
  have hV : evValsGo e (toldRF 1) (ev0 1, []) = evValsGo e [⟨34, 0, 0, 0⟩, ⟨11, 0, 1, 0⟩, ⟨1, 4294967295, 3, 0⟩, ⟨54, 255, 3, 32⟩, ⟨40, 255, 3, 40⟩, ⟨44, 4294967295, 4, 0⟩, ⟨38, 0, 5, 0⟩, ⟨210, 0, 6, 0⟩] (ev0 1, []) := rfl
  by_cases hs : (0 ≤ e.side ∧ e.side ≤ 255) ∧ (0 ≤ e.type ∧ e.type ≤ 255) ∧ (0 ≤ e.price ∧ e.price ≤ 4294967295)
  · obtain ⟨b0, b1, b2⟩ := hs
    have m0 : e.side % 18446744073709551616 = e.side := Int.emod_eq_of_lt b0.1 (by omega)
    have f0 : s64 e.side = e.side := s64_in (by omega)
    have m1 : e.type % 18446744073709551616 = e.type := Int.emod_eq_of_lt b1.1 (by omega)
    have f1 : s64 e.type = e.type := s64_in (by omega)
    have m2 : e.price % 18446744073709551616 = e.price := Int.emod_eq_of_lt b2.1 (by omega)
    have f2 : s64 e.price = e.price := s64_in (by omega)
    simp only [evValsGo, v0, v1, v2, v3, v4, v5, v6, v7, if_pos b0, if_pos b1, if_pos b2, List.nil_append, List.cons_append] at hV
    have hs1 : evValsGo e (toldRF 1) (ev0 1, []) = some (⟨e.seq, 1, e.id, 0, 0, e.member, e.side, e.type, e.price, e.qty, e.peak, 0, 0⟩, [e.seq, e.id, e.member, e.side, e.type, e.price, e.qty, e.peak]) := by
      rw [hV]
      simp [withEventF, ev0, m0, f0, m1, f1, m2, f2, em, em2]
    have hI : eventOfF 1 (numsF (evFields1 e)) = ⟨e.seq, 1, e.id, 0, 0, e.member, e.side, e.type, e.price, e.qty, e.peak, 0, 0⟩ := by
      simp [evFields1, wholeF, upToF, numsF, iput, eventOfF, iget, m0, f0, m1, f1, m2, f2, em, em2]
      all_goals first | rfl | exact ⟨rfl, rfl⟩ | exact ⟨rfl, rfl, rfl⟩ | exact ⟨rfl, rfl, rfl, rfl⟩ | exact ⟨rfl, rfl, rfl, rfl, rfl⟩
    have hA : ((evFields1 e).all (·.fits)) = true := by
      simp [evFields1, wholeF, upToF, b0, b1, b2]
    by_cases hX : (⟨e.seq, 1, e.id, 0, 0, e.member, e.side, e.type, e.price, e.qty, e.peak, 0, 0⟩ : Event) = e
    · have t0 : toldEvE e = 0 := by
        rw [toldEvE, hF]
        exact if_pos ⟨hA, by rw [h1, hI]; exact hX⟩
      have r0 : refEvE e = 0 := by
        rw [hR, hs1]
        exact if_pos hX
      rw [packEvF, refPackEvF, if_pos t0, if_pos r0, hF, h1, hs1]
      have x0 : up e.seq 0 = e.seq := up_zero hw.seq
      have y0 : add64 0 e.seq = e.seq := add64_zero hw.seq
      have z0 : add64 e.seq 0 = e.seq := add64_zero' hw.seq
      have x1 : up e.id 0 = e.id := up_zero hw.id
      have y1 : add64 0 e.id = e.id := add64_zero hw.id
      have z1 : add64 e.id 0 = e.id := add64_zero' hw.id
      have x2 : up e.member 0 = e.member := up_zero (by omega)
      have y2 : add64 0 e.member = e.member := add64_zero (by omega)
      have z2 : add64 e.member 0 = e.member := add64_zero' (by omega)
      have x3 : up e.side 0 = e.side := up_zero (by omega)
      have y3 : add64 0 e.side = e.side := add64_zero (by omega)
      have z3 : add64 e.side 0 = e.side := add64_zero' (by omega)
      have x4 : up e.type 0 = e.type := up_zero (by omega)
      have y4 : add64 0 e.type = e.type := add64_zero (by omega)
      have z4 : add64 e.type 0 = e.type := add64_zero' (by omega)
      have x5 : up e.price 0 = e.price := up_zero (by omega)
      have y5 : add64 0 e.price = e.price := add64_zero (by omega)
      have z5 : add64 e.price 0 = e.price := add64_zero' (by omega)
      have x6 : up e.qty 0 = e.qty := up_zero hw.qty
      have y6 : add64 0 e.qty = e.qty := add64_zero hw.qty
      have z6 : add64 e.qty 0 = e.qty := add64_zero' hw.qty
      have x7 : up e.peak 0 = e.peak := up_zero hw.peak
      have y7 : add64 0 e.peak = e.peak := add64_zero hw.peak
      have z7 : add64 e.peak 0 = e.peak := add64_zero' hw.peak
      have zz : add64 0 0 = 0 := rfl
      simp [evFrameF, laidF, toldRF, laidGo, laidStep, evFields1, wholeF, upToF, numsF, iput, iget, up_none, add64_add0, zz, m0, f0, m1, f1, m2, f2, em, em2, x0, y0, z0, x1, y1, z1, x2, y2, z2, x3, y3, z3, x4, y4, z4, x5, y5, z5, x6, y6, z6, x7, y7, z7]
    · refine packEv_err (e := 40) (by decide) ?_ ?_
      · rw [toldEvE, hF]
        exact if_neg (fun h => hX (by rw [← hI, ← h1]; exact h.2))
      · rw [hR, hs1]
        exact if_neg hX
  · refine packEv_err (e := 40) (by decide) ?_ ?_
    · rw [toldEvE, hF]
      refine if_neg (fun h => hs ?_)
      have := h.1
      simpa [evFields1, wholeF, upToF, and_assoc] using this
    · rw [hR, hV]
      simp only [evValsGo, v0, v1, v2, v3, v4, v5, v6, v7]
      by_cases b0 : 0 ≤ e.side ∧ e.side ≤ 255
      · skip
        by_cases b1 : 0 ≤ e.type ∧ e.type ≤ 255
        · skip
          have b2 : ¬ (0 ≤ e.price ∧ e.price ≤ 4294967295) := fun b2 => hs ⟨b0, b1, b2⟩
          simp only [if_pos b0, if_pos b1, if_neg b2]
        · simp only [if_pos b0, if_neg b1]
      · simp only [if_neg b0]
theorem packEv_2 {e : Event} (hw : e.Wf) (h1 : e.kind = 2) : packEvF e = refPackEvF e := by
  have hF : evFieldsF e = some (evFields2 e) := by rw [evFieldsF, if_neg (by omega), if_pos h1]
  have hR : refEvE e = match evValsGo e (toldRF 2) (ev0 2, []) with | none => 40 | some s => if s.1 = e then 0 else 40 := by
    rw [refEvE, if_neg (by omega), h1]
    all_goals rfl
  have hm := hw.member
  have em : e.member % 18446744073709551616 = e.member := Int.emod_eq_of_lt hm.1 (by omega)
  have em2 : e.member % 4294967296 = e.member := Int.emod_eq_of_lt hm.1 (by omega)
  have v0 : ∀ s, evStepF e ⟨34, 0, 0, 0⟩ s = _ := fun s => evStep_any (n := e.seq) rfl (.inl rfl)
  have v1 : ∀ s, evStepF e ⟨11, 0, 1, 0⟩ s = _ := fun s => evStep_any (n := e.id) rfl (.inl rfl)
  have v2 : ∀ s, evStepF e ⟨41, 0, 2, 0⟩ s = _ := fun s => evStep_any (n := e.target) rfl (.inl rfl)
  have v3 : ∀ s, evStepF e ⟨103, 4294967295, 4, 32⟩ s = _ := fun s => evStep_small hw.code rfl (by decide)
  have hV : evValsGo e (toldRF 2) (ev0 2, []) = evValsGo e [⟨34, 0, 0, 0⟩, ⟨11, 0, 1, 0⟩, ⟨41, 0, 2, 0⟩, ⟨103, 4294967295, 4, 32⟩] (ev0 2, []) := rfl
  by_cases hs : (0 ≤ e.code ∧ e.code ≤ 4294967295)
  · have b0 := hs
    have m0 : e.code % 18446744073709551616 = e.code := Int.emod_eq_of_lt b0.1 (by omega)
    have f0 : s64 e.code = e.code := s64_in (by omega)
    simp only [evValsGo, v0, v1, v2, v3, if_pos b0, List.nil_append, List.cons_append] at hV
    have hs1 : evValsGo e (toldRF 2) (ev0 2, []) = some (⟨e.seq, 2, e.id, 0, e.target, 0, 0, 0, 0, 0, 0, 0, e.code⟩, [e.seq, e.id, e.target, e.code]) := by
      rw [hV]
      simp [withEventF, ev0, m0, f0, em, em2]
    have hI : eventOfF 2 (numsF (evFields2 e)) = ⟨e.seq, 2, e.id, 0, e.target, 0, 0, 0, 0, 0, 0, 0, e.code⟩ := by
      simp [evFields2, wholeF, upToF, numsF, iput, eventOfF, iget, m0, f0, em, em2]
      all_goals first | rfl | exact ⟨rfl, rfl⟩ | exact ⟨rfl, rfl, rfl⟩ | exact ⟨rfl, rfl, rfl, rfl⟩ | exact ⟨rfl, rfl, rfl, rfl, rfl⟩
    have hA : ((evFields2 e).all (·.fits)) = true := by
      simp [evFields2, wholeF, upToF, b0]
    by_cases hX : (⟨e.seq, 2, e.id, 0, e.target, 0, 0, 0, 0, 0, 0, 0, e.code⟩ : Event) = e
    · have t0 : toldEvE e = 0 := by
        rw [toldEvE, hF]
        exact if_pos ⟨hA, by rw [h1, hI]; exact hX⟩
      have r0 : refEvE e = 0 := by
        rw [hR, hs1]
        exact if_pos hX
      rw [packEvF, refPackEvF, if_pos t0, if_pos r0, hF, h1, hs1]
      have x0 : up e.seq 0 = e.seq := up_zero hw.seq
      have y0 : add64 0 e.seq = e.seq := add64_zero hw.seq
      have z0 : add64 e.seq 0 = e.seq := add64_zero' hw.seq
      have x1 : up e.id 0 = e.id := up_zero hw.id
      have y1 : add64 0 e.id = e.id := add64_zero hw.id
      have z1 : add64 e.id 0 = e.id := add64_zero' hw.id
      have x2 : up e.target 0 = e.target := up_zero hw.target
      have y2 : add64 0 e.target = e.target := add64_zero hw.target
      have z2 : add64 e.target 0 = e.target := add64_zero' hw.target
      have x3 : up e.code 0 = e.code := up_zero (by omega)
      have y3 : add64 0 e.code = e.code := add64_zero (by omega)
      have z3 : add64 e.code 0 = e.code := add64_zero' (by omega)
      have zz : add64 0 0 = 0 := rfl
      simp [evFrameF, laidF, toldRF, laidGo, laidStep, evFields2, wholeF, upToF, numsF, iput, iget, up_none, add64_add0, zz, m0, f0, em, em2, x0, y0, z0, x1, y1, z1, x2, y2, z2, x3, y3, z3]
    · refine packEv_err (e := 40) (by decide) ?_ ?_
      · rw [toldEvE, hF]
        exact if_neg (fun h => hX (by rw [← hI, ← h1]; exact h.2))
      · rw [hR, hs1]
        exact if_neg hX
  · refine packEv_err (e := 40) (by decide) ?_ ?_
    · rw [toldEvE, hF]
      refine if_neg (fun h => hs ?_)
      have := h.1
      simpa [evFields2, wholeF, upToF, and_assoc] using this
    · rw [hR, hV]
      simp only [evValsGo, v0, v1, v2, v3]
      have b0 : ¬ (0 ≤ e.code ∧ e.code ≤ 4294967295) := fun b0 => hs b0
      simp only [if_neg b0]
theorem packEv_3 {e : Event} (hw : e.Wf) (h1 : e.kind = 3) : packEvF e = refPackEvF e := by
  have hF : evFieldsF e = some (evFields3 e) := by rw [evFieldsF, if_neg (by omega), if_neg (by omega), if_pos h1]
  have hR : refEvE e = match evValsGo e (toldRF 3) (ev0 3, []) with | none => 40 | some s => if s.1 = e then 0 else 40 := by
    rw [refEvE, if_neg (by omega), h1]
    all_goals rfl
  have hm := hw.member
  have em : e.member % 18446744073709551616 = e.member := Int.emod_eq_of_lt hm.1 (by omega)
  have em2 : e.member % 4294967296 = e.member := Int.emod_eq_of_lt hm.1 (by omega)
  have v0 : ∀ s, evStepF e ⟨34, 0, 0, 0⟩ s = _ := fun s => evStep_any (n := e.seq) rfl (.inl rfl)
  have v1 : ∀ s, evStepF e ⟨11, 0, 1, 0⟩ s = _ := fun s => evStep_any (n := e.id) rfl (.inl rfl)
  have v2 : ∀ s, evStepF e ⟨37, 0, 2, 0⟩ s = _ := fun s => evStep_any (n := e.other) rfl (.inl rfl)
  have v3 : ∀ s, evStepF e ⟨54, 255, 3, 32⟩ s = _ := fun s => evStep_small hw.side rfl (by decide)
  have v4 : ∀ s, evStepF e ⟨44, 4294967295, 4, 0⟩ s = _ := fun s => evStep_small hw.price rfl (by decide)
  have v5 : ∀ s, evStepF e ⟨38, 0, 5, 0⟩ s = _ := fun s => evStep_any (n := e.qty) rfl (.inl rfl)
  have hV : evValsGo e (toldRF 3) (ev0 3, []) = evValsGo e [⟨34, 0, 0, 0⟩, ⟨11, 0, 1, 0⟩, ⟨37, 0, 2, 0⟩, ⟨54, 255, 3, 32⟩, ⟨44, 4294967295, 4, 0⟩, ⟨38, 0, 5, 0⟩] (ev0 3, []) := rfl
  by_cases hs : (0 ≤ e.side ∧ e.side ≤ 255) ∧ (0 ≤ e.price ∧ e.price ≤ 4294967295)
  · obtain ⟨b0, b1⟩ := hs
    have m0 : e.side % 18446744073709551616 = e.side := Int.emod_eq_of_lt b0.1 (by omega)
    have f0 : s64 e.side = e.side := s64_in (by omega)
    have m1 : e.price % 18446744073709551616 = e.price := Int.emod_eq_of_lt b1.1 (by omega)
    have f1 : s64 e.price = e.price := s64_in (by omega)
    simp only [evValsGo, v0, v1, v2, v3, v4, v5, if_pos b0, if_pos b1, List.nil_append, List.cons_append] at hV
    have hs1 : evValsGo e (toldRF 3) (ev0 3, []) = some (⟨e.seq, 3, e.id, e.other, 0, 0, e.side, 0, e.price, e.qty, 0, 0, 0⟩, [e.seq, e.id, e.other, e.side, e.price, e.qty]) := by
      rw [hV]
      simp [withEventF, ev0, m0, f0, m1, f1, em, em2]
    have hI : eventOfF 3 (numsF (evFields3 e)) = ⟨e.seq, 3, e.id, e.other, 0, 0, e.side, 0, e.price, e.qty, 0, 0, 0⟩ := by
      simp [evFields3, wholeF, upToF, numsF, iput, eventOfF, iget, m0, f0, m1, f1, em, em2]
      all_goals first | rfl | exact ⟨rfl, rfl⟩ | exact ⟨rfl, rfl, rfl⟩ | exact ⟨rfl, rfl, rfl, rfl⟩ | exact ⟨rfl, rfl, rfl, rfl, rfl⟩
    have hA : ((evFields3 e).all (·.fits)) = true := by
      simp [evFields3, wholeF, upToF, b0, b1]
    by_cases hX : (⟨e.seq, 3, e.id, e.other, 0, 0, e.side, 0, e.price, e.qty, 0, 0, 0⟩ : Event) = e
    · have t0 : toldEvE e = 0 := by
        rw [toldEvE, hF]
        exact if_pos ⟨hA, by rw [h1, hI]; exact hX⟩
      have r0 : refEvE e = 0 := by
        rw [hR, hs1]
        exact if_pos hX
      rw [packEvF, refPackEvF, if_pos t0, if_pos r0, hF, h1, hs1]
      have x0 : up e.seq 0 = e.seq := up_zero hw.seq
      have y0 : add64 0 e.seq = e.seq := add64_zero hw.seq
      have z0 : add64 e.seq 0 = e.seq := add64_zero' hw.seq
      have x1 : up e.id 0 = e.id := up_zero hw.id
      have y1 : add64 0 e.id = e.id := add64_zero hw.id
      have z1 : add64 e.id 0 = e.id := add64_zero' hw.id
      have x2 : up e.other 0 = e.other := up_zero hw.other
      have y2 : add64 0 e.other = e.other := add64_zero hw.other
      have z2 : add64 e.other 0 = e.other := add64_zero' hw.other
      have x3 : up e.side 0 = e.side := up_zero (by omega)
      have y3 : add64 0 e.side = e.side := add64_zero (by omega)
      have z3 : add64 e.side 0 = e.side := add64_zero' (by omega)
      have x4 : up e.price 0 = e.price := up_zero (by omega)
      have y4 : add64 0 e.price = e.price := add64_zero (by omega)
      have z4 : add64 e.price 0 = e.price := add64_zero' (by omega)
      have x5 : up e.qty 0 = e.qty := up_zero hw.qty
      have y5 : add64 0 e.qty = e.qty := add64_zero hw.qty
      have z5 : add64 e.qty 0 = e.qty := add64_zero' hw.qty
      have zz : add64 0 0 = 0 := rfl
      simp [evFrameF, laidF, toldRF, laidGo, laidStep, evFields3, wholeF, upToF, numsF, iput, iget, up_none, add64_add0, zz, m0, f0, m1, f1, em, em2, x0, y0, z0, x1, y1, z1, x2, y2, z2, x3, y3, z3, x4, y4, z4, x5, y5, z5]
    · refine packEv_err (e := 40) (by decide) ?_ ?_
      · rw [toldEvE, hF]
        exact if_neg (fun h => hX (by rw [← hI, ← h1]; exact h.2))
      · rw [hR, hs1]
        exact if_neg hX
  · refine packEv_err (e := 40) (by decide) ?_ ?_
    · rw [toldEvE, hF]
      refine if_neg (fun h => hs ?_)
      have := h.1
      simpa [evFields3, wholeF, upToF, and_assoc] using this
    · rw [hR, hV]
      simp only [evValsGo, v0, v1, v2, v3, v4, v5]
      by_cases b0 : 0 ≤ e.side ∧ e.side ≤ 255
      · skip
        have b1 : ¬ (0 ≤ e.price ∧ e.price ≤ 4294967295) := fun b1 => hs ⟨b0, b1⟩
        simp only [if_pos b0, if_neg b1]
      · simp only [if_neg b0]
theorem packEv_4 {e : Event} (hw : e.Wf) (h1 : e.kind = 4) : packEvF e = refPackEvF e := by
  have hF : evFieldsF e = some (evFields4 e) := by rw [evFieldsF, if_neg (by omega), if_neg (by omega), if_neg (by omega), if_pos h1]
  have hR : refEvE e = match evValsGo e (toldRF 4) (ev0 4, []) with | none => 40 | some s => if s.1 = e then 0 else 40 := by
    rw [refEvE, if_neg (by omega), h1]
    all_goals rfl
  have hm := hw.member
  have em : e.member % 18446744073709551616 = e.member := Int.emod_eq_of_lt hm.1 (by omega)
  have em2 : e.member % 4294967296 = e.member := Int.emod_eq_of_lt hm.1 (by omega)
  have v0 : ∀ s, evStepF e ⟨34, 0, 0, 0⟩ s = _ := fun s => evStep_any (n := e.seq) rfl (.inl rfl)
  have v1 : ∀ s, evStepF e ⟨11, 0, 1, 0⟩ s = _ := fun s => evStep_any (n := e.id) rfl (.inl rfl)
  have v2 : ∀ s, evStepF e ⟨38, 0, 5, 0⟩ s = _ := fun s => evStep_any (n := e.qty) rfl (.inl rfl)
  have v3 : ∀ s, evStepF e ⟨378, 255, 3, 48⟩ s = _ := fun s => evStep_small hw.reason rfl (by decide)
  have hV : evValsGo e (toldRF 4) (ev0 4, []) = evValsGo e [⟨34, 0, 0, 0⟩, ⟨11, 0, 1, 0⟩, ⟨38, 0, 5, 0⟩, ⟨378, 255, 3, 48⟩] (ev0 4, []) := rfl
  by_cases hs : (0 ≤ e.reason ∧ e.reason ≤ 255)
  · have b0 := hs
    have m0 : e.reason % 18446744073709551616 = e.reason := Int.emod_eq_of_lt b0.1 (by omega)
    have f0 : s64 e.reason = e.reason := s64_in (by omega)
    simp only [evValsGo, v0, v1, v2, v3, if_pos b0, List.nil_append, List.cons_append] at hV
    have hs1 : evValsGo e (toldRF 4) (ev0 4, []) = some (⟨e.seq, 4, e.id, 0, 0, 0, 0, 0, 0, e.qty, 0, e.reason, 0⟩, [e.seq, e.id, e.qty, e.reason]) := by
      rw [hV]
      simp [withEventF, ev0, m0, f0, em, em2]
    have hI : eventOfF 4 (numsF (evFields4 e)) = ⟨e.seq, 4, e.id, 0, 0, 0, 0, 0, 0, e.qty, 0, e.reason, 0⟩ := by
      simp [evFields4, wholeF, upToF, numsF, iput, eventOfF, iget, m0, f0, em, em2]
      all_goals first | rfl | exact ⟨rfl, rfl⟩ | exact ⟨rfl, rfl, rfl⟩ | exact ⟨rfl, rfl, rfl, rfl⟩ | exact ⟨rfl, rfl, rfl, rfl, rfl⟩
    have hA : ((evFields4 e).all (·.fits)) = true := by
      simp [evFields4, wholeF, upToF, b0]
    by_cases hX : (⟨e.seq, 4, e.id, 0, 0, 0, 0, 0, 0, e.qty, 0, e.reason, 0⟩ : Event) = e
    · have t0 : toldEvE e = 0 := by
        rw [toldEvE, hF]
        exact if_pos ⟨hA, by rw [h1, hI]; exact hX⟩
      have r0 : refEvE e = 0 := by
        rw [hR, hs1]
        exact if_pos hX
      rw [packEvF, refPackEvF, if_pos t0, if_pos r0, hF, h1, hs1]
      have x0 : up e.seq 0 = e.seq := up_zero hw.seq
      have y0 : add64 0 e.seq = e.seq := add64_zero hw.seq
      have z0 : add64 e.seq 0 = e.seq := add64_zero' hw.seq
      have x1 : up e.id 0 = e.id := up_zero hw.id
      have y1 : add64 0 e.id = e.id := add64_zero hw.id
      have z1 : add64 e.id 0 = e.id := add64_zero' hw.id
      have x2 : up e.qty 0 = e.qty := up_zero hw.qty
      have y2 : add64 0 e.qty = e.qty := add64_zero hw.qty
      have z2 : add64 e.qty 0 = e.qty := add64_zero' hw.qty
      have x3 : up e.reason 0 = e.reason := up_zero (by omega)
      have y3 : add64 0 e.reason = e.reason := add64_zero (by omega)
      have z3 : add64 e.reason 0 = e.reason := add64_zero' (by omega)
      have zz : add64 0 0 = 0 := rfl
      simp [evFrameF, laidF, toldRF, laidGo, laidStep, evFields4, wholeF, upToF, numsF, iput, iget, up_none, add64_add0, zz, m0, f0, em, em2, x0, y0, z0, x1, y1, z1, x2, y2, z2, x3, y3, z3]
    · refine packEv_err (e := 40) (by decide) ?_ ?_
      · rw [toldEvE, hF]
        exact if_neg (fun h => hX (by rw [← hI, ← h1]; exact h.2))
      · rw [hR, hs1]
        exact if_neg hX
  · refine packEv_err (e := 40) (by decide) ?_ ?_
    · rw [toldEvE, hF]
      refine if_neg (fun h => hs ?_)
      have := h.1
      simpa [evFields4, wholeF, upToF, and_assoc] using this
    · rw [hR, hV]
      simp only [evValsGo, v0, v1, v2, v3]
      have b0 : ¬ (0 ≤ e.reason ∧ e.reason ≤ 255) := fun b0 => hs b0
      simp only [if_neg b0]
theorem packEv_5 {e : Event} (hw : e.Wf) (h1 : e.kind = 5) : packEvF e = refPackEvF e := by
  have hF : evFieldsF e = some (evFields5 e) := by rw [evFieldsF, if_neg (by omega), if_neg (by omega), if_neg (by omega), if_neg (by omega), if_pos h1]
  have hR : refEvE e = match evValsGo e (toldRF 5) (ev0 5, []) with | none => 40 | some s => if s.1 = e then 0 else 40 := by
    rw [refEvE, if_neg (by omega), h1]
    all_goals rfl
  have hm := hw.member
  have em : e.member % 18446744073709551616 = e.member := Int.emod_eq_of_lt hm.1 (by omega)
  have em2 : e.member % 4294967296 = e.member := Int.emod_eq_of_lt hm.1 (by omega)
  have v0 : ∀ s, evStepF e ⟨34, 0, 0, 0⟩ s = _ := fun s => evStep_any (n := e.seq) rfl (.inl rfl)
  have v1 : ∀ s, evStepF e ⟨11, 0, 1, 0⟩ s = _ := fun s => evStep_any (n := e.id) rfl (.inl rfl)
  have v2 : ∀ s, evStepF e ⟨44, 4294967295, 4, 0⟩ s = _ := fun s => evStep_small hw.price rfl (by decide)
  have v3 : ∀ s, evStepF e ⟨38, 0, 5, 0⟩ s = _ := fun s => evStep_any (n := e.qty) rfl (.inl rfl)
  have hV : evValsGo e (toldRF 5) (ev0 5, []) = evValsGo e [⟨34, 0, 0, 0⟩, ⟨11, 0, 1, 0⟩, ⟨44, 4294967295, 4, 0⟩, ⟨38, 0, 5, 0⟩] (ev0 5, []) := rfl
  by_cases hs : (0 ≤ e.price ∧ e.price ≤ 4294967295)
  · have b0 := hs
    have m0 : e.price % 18446744073709551616 = e.price := Int.emod_eq_of_lt b0.1 (by omega)
    have f0 : s64 e.price = e.price := s64_in (by omega)
    simp only [evValsGo, v0, v1, v2, v3, if_pos b0, List.nil_append, List.cons_append] at hV
    have hs1 : evValsGo e (toldRF 5) (ev0 5, []) = some (⟨e.seq, 5, e.id, 0, 0, 0, 0, 0, e.price, e.qty, 0, 0, 0⟩, [e.seq, e.id, e.price, e.qty]) := by
      rw [hV]
      simp [withEventF, ev0, m0, f0, em, em2]
    have hI : eventOfF 5 (numsF (evFields5 e)) = ⟨e.seq, 5, e.id, 0, 0, 0, 0, 0, e.price, e.qty, 0, 0, 0⟩ := by
      simp [evFields5, wholeF, upToF, numsF, iput, eventOfF, iget, m0, f0, em, em2]
      all_goals first | rfl | exact ⟨rfl, rfl⟩ | exact ⟨rfl, rfl, rfl⟩ | exact ⟨rfl, rfl, rfl, rfl⟩ | exact ⟨rfl, rfl, rfl, rfl, rfl⟩
    have hA : ((evFields5 e).all (·.fits)) = true := by
      simp [evFields5, wholeF, upToF, b0]
    by_cases hX : (⟨e.seq, 5, e.id, 0, 0, 0, 0, 0, e.price, e.qty, 0, 0, 0⟩ : Event) = e
    · have t0 : toldEvE e = 0 := by
        rw [toldEvE, hF]
        exact if_pos ⟨hA, by rw [h1, hI]; exact hX⟩
      have r0 : refEvE e = 0 := by
        rw [hR, hs1]
        exact if_pos hX
      rw [packEvF, refPackEvF, if_pos t0, if_pos r0, hF, h1, hs1]
      have x0 : up e.seq 0 = e.seq := up_zero hw.seq
      have y0 : add64 0 e.seq = e.seq := add64_zero hw.seq
      have z0 : add64 e.seq 0 = e.seq := add64_zero' hw.seq
      have x1 : up e.id 0 = e.id := up_zero hw.id
      have y1 : add64 0 e.id = e.id := add64_zero hw.id
      have z1 : add64 e.id 0 = e.id := add64_zero' hw.id
      have x2 : up e.price 0 = e.price := up_zero (by omega)
      have y2 : add64 0 e.price = e.price := add64_zero (by omega)
      have z2 : add64 e.price 0 = e.price := add64_zero' (by omega)
      have x3 : up e.qty 0 = e.qty := up_zero hw.qty
      have y3 : add64 0 e.qty = e.qty := add64_zero hw.qty
      have z3 : add64 e.qty 0 = e.qty := add64_zero' hw.qty
      have zz : add64 0 0 = 0 := rfl
      simp [evFrameF, laidF, toldRF, laidGo, laidStep, evFields5, wholeF, upToF, numsF, iput, iget, up_none, add64_add0, zz, m0, f0, em, em2, x0, y0, z0, x1, y1, z1, x2, y2, z2, x3, y3, z3]
    · refine packEv_err (e := 40) (by decide) ?_ ?_
      · rw [toldEvE, hF]
        exact if_neg (fun h => hX (by rw [← hI, ← h1]; exact h.2))
      · rw [hR, hs1]
        exact if_neg hX
  · refine packEv_err (e := 40) (by decide) ?_ ?_
    · rw [toldEvE, hF]
      refine if_neg (fun h => hs ?_)
      have := h.1
      simpa [evFields5, wholeF, upToF, and_assoc] using this
    · rw [hR, hV]
      simp only [evValsGo, v0, v1, v2, v3]
      have b0 : ¬ (0 ≤ e.price ∧ e.price ≤ 4294967295) := fun b0 => hs b0
      simp only [if_neg b0]
theorem packEv_none {e : Event} (h : ¬ (1 ≤ e.kind ∧ e.kind ≤ 5)) : packEvF e = refPackEvF e := by
  have hF : evFieldsF e = none := by rw [evFieldsF, if_neg (by omega), if_neg (by omega), if_neg (by omega), if_neg (by omega), if_neg (by omega)]
  refine packEv_err (e := 41) (by decide) ?_ ?_
  · rw [toldEvE, hF]
  · exact if_pos h
theorem packEv_eq {e : Event} (hw : e.Wf) : packEvF e = refPackEvF e := by
  by_cases h : 1 ≤ e.kind ∧ e.kind ≤ 5
  · have : e.kind = 1 ∨ e.kind = 2 ∨ e.kind = 3 ∨ e.kind = 4 ∨ e.kind = 5 := by omega
    rcases this with h | h | h | h | h
    · exact packEv_1 hw h
    · exact packEv_2 hw h
    · exact packEv_3 hw h
    · exact packEv_4 hw h
    · exact packEv_5 hw h
  · exact packEv_none h
end Go.Rx
