/- Parts of the proof. -/
import Derived.Test.YtonoamdonmbkpaaDoorProg
import Derived.Test.YtonoamdonmbkpaaDoorRxL1
import Derived.KernelRfl
import Derived.Shelf.Strings.Builder1
import Derived.Shelf.Strings.Builder2
import Derived.Shelf.Strings.OnBuilder
import Derived.Shelf.Strconv.Itoa0
import Derived.Shelf.Strconv.Itoa1
import Derived.Shelf.LaysM
import Derived.Shelf.Strconv.Itoa2
import Derived.Shelf.Strconv.Itoa3
import Derived.Shelf.Strconv.Clone
import Derived.Shelf.Strconv.SyntaxError
import Derived.Shelf.LaysC
import Derived.Shelf.Strconv.ToError
import Derived.Shelf.Strconv.Lower
import Derived.Shelf.Strconv.ParseUint10
import Derived.Shelf.Strconv.ParseUint10Empty
import Derived.Shelf.Strconv.ParseUint10Any
import Derived.Shelf.Strconv.RangeError
import Derived.Shelf.Strconv.ToErrorRange
import Derived.Shelf.Strconv.ParseUint10b16
import Derived.Ground.MpProg
import Derived.Shelf.Pu.ParseUintPublic10
import Derived.Shelf.Pu.ErrVarParseUint
import Derived.Shelf.Strings.Search1
import Derived.Shelf.Strings.Search2
import Derived.Shelf.Strings.Cut
import Derived.Shelf.Strings.Shaped
import Derived.Lib.Walk
import Derived.Lib.ItoaMem
import Derived.WalkKit
import Derived.BigCall
import Derived.BigGuard
import Derived.Lib.ParseIntBCases
import Derived.Lib.ItoaNum
import Derived.Lib.AtoiErrMem
import Derived.Shelf.Lay
import Derived.Test.YtonoamdonmbkpaaDoorRows
import Derived.Stop.LaidErr
import Derived.LaidLaws
import Derived.LaidHandle
import Derived.ChangeMaps5
import Derived.SizedLaws
import Derived.WideLaws
import Derived.Room.Shelf.Join48
set_option linter.unusedVariables false
set_option linter.unusedSimpArgs false
/- Facts of the types of the program. -/
namespace Go.Rx
open Go
theorem mixed : Go.Proofs.Tryd.prog.follows .mixedOrders = true := by kernel_rfl
theorem st.string : isStr Go.Proofs.Tryd.prog 9 = true := by kernel_rfl
theorem it.uint64 : intOfT Go.Proofs.Tryd.prog 23 .u64 = true := by kernel_rfl
theorem fd.api_Operation_1 : fldOf Go.Proofs.Tryd.prog 27 1 1 9 1 = true := by kernel_rfl
theorem sz.string : szOf Go.Proofs.Tryd.prog 9 1 = true := by kernel_rfl
theorem sc.string : isSc Go.Proofs.Tryd.prog 9 = true := by kernel_rfl
theorem it.uint32 : intOfT Go.Proofs.Tryd.prog 22 .u32 = true := by kernel_rfl
theorem fd.api_Operation_2 : fldOf Go.Proofs.Tryd.prog 27 2 2 22 1 = true := by kernel_rfl
theorem sz.uint32 : szOf Go.Proofs.Tryd.prog 22 1 = true := by kernel_rfl
theorem sc.uint32 : isSc Go.Proofs.Tryd.prog 22 = true := by kernel_rfl
theorem fd.api_Operation_3 : fldOf Go.Proofs.Tryd.prog 27 3 3 3 1 = true := by kernel_rfl
theorem fd.api_Operation_4 : fldOf Go.Proofs.Tryd.prog 27 4 4 3 1 = true := by kernel_rfl
theorem fd.api_Operation_5 : fldOf Go.Proofs.Tryd.prog 27 5 5 25 5 = true := by kernel_rfl
theorem fd.api_Limits_2 : fldOf Go.Proofs.Tryd.prog 25 2 2 3 1 = true := by kernel_rfl
theorem fd.api_Limits_0 : fldOf Go.Proofs.Tryd.prog 25 0 0 23 1 = true := by kernel_rfl
theorem fd.api_Limits_1 : fldOf Go.Proofs.Tryd.prog 25 1 1 23 1 = true := by kernel_rfl
theorem fd.api_Limits_3 : fldOf Go.Proofs.Tryd.prog 25 3 3 23 1 = true := by kernel_rfl
theorem fd.api_Limits_4 : fldOf Go.Proofs.Tryd.prog 25 4 4 23 1 = true := by kernel_rfl
theorem sc.uint64 : isSc Go.Proofs.Tryd.prog 23 = true := by kernel_rfl
theorem sc.func_api_Operation_int : isSc Go.Proofs.Tryd.prog 56 = true := by kernel_rfl
theorem it.int : intOfT Go.Proofs.Tryd.prog 3 .i64 = true := by kernel_rfl
theorem sz.int : szOf Go.Proofs.Tryd.prog 3 1 = true := by kernel_rfl
theorem fd.api_Operation_6 : fldOf Go.Proofs.Tryd.prog 27 6 10 4 1 = true := by kernel_rfl
theorem sz.bool : szOf Go.Proofs.Tryd.prog 4 1 = true := by kernel_rfl
theorem sc.func_api_Limits_uint64 : isSc Go.Proofs.Tryd.prog 61 = true := by kernel_rfl
theorem sz.uint64 : szOf Go.Proofs.Tryd.prog 23 1 = true := by kernel_rfl
theorem sc.int : isSc Go.Proofs.Tryd.prog 3 = true := by kernel_rfl
theorem z.console_field : zeroOf Go.Proofs.Tryd.prog 43 = some (.agg #[.nilFunc, .nilFunc]) := by kernel_rfl
theorem pl.console_field : fieldPlaces Go.Proofs.Tryd.prog 43 = some [(0, 1), (1, 1)] := by kernel_rfl
theorem sz.console_field : szOf Go.Proofs.Tryd.prog 43 2 = true := by kernel_rfl
theorem ag.console_field : isAg Go.Proofs.Tryd.prog 43 2 = true := by kernel_rfl
theorem sl.sl_console_field : slcOf Go.Proofs.Tryd.prog 37 43 2 = true := by kernel_rfl
theorem z.api_Operation : zeroOf Go.Proofs.Tryd.prog 27 = some (.agg #[.string ⟨#[]⟩, .string ⟨#[]⟩, .int .u32 0, .int .i64 0, .int .i64 0, .int .u64 0, .int .u64 0, .int .i64 0, .int .u64 0, .int .u64 0, .bool false]) := by kernel_rfl
theorem pl.api_Operation : fieldPlaces Go.Proofs.Tryd.prog 27 = some [(0, 1), (1, 1), (2, 1), (3, 1), (4, 1), (5, 5), (10, 1)] := by kernel_rfl
theorem sz.api_Operation : szOf Go.Proofs.Tryd.prog 27 11 = true := by kernel_rfl
theorem ag.api_Operation : isAg Go.Proofs.Tryd.prog 27 11 = true := by kernel_rfl
theorem fd.console_field_0 : fldOf Go.Proofs.Tryd.prog 43 0 0 40 1 = true := by kernel_rfl
theorem sc.func_api_Operation_string_bool : isSc Go.Proofs.Tryd.prog 40 = true := by kernel_rfl
theorem sl.sl_string : slcOf Go.Proofs.Tryd.prog 47 9 1 = true := by kernel_rfl
theorem z.string : zeroOf Go.Proofs.Tryd.prog 9 = some (.string ⟨#[]⟩) := by kernel_rfl
theorem fd.api_Operation_0 : fldOf Go.Proofs.Tryd.prog 27 0 0 9 1 = true := by kernel_rfl
theorem fd.console_field_1 : fldOf Go.Proofs.Tryd.prog 43 1 1 41 1 = true := by kernel_rfl
theorem sc.func_api_Operation_string : isSc Go.Proofs.Tryd.prog 41 = true := by kernel_rfl
theorem el.string : elOf Go.Proofs.Tryd.prog 9 1 16 = true := by kernel_rfl
theorem so.api_Operation : sorts Go.Proofs.Tryd.prog 20 27 = some [.str, .str, .int .u32, .int .i64, .int .i64, .int .u64, .int .u64, .int .i64, .int .u64, .int .u64, .bool] := by kernel_rfl
theorem gd.api_Operation : Go.Proofs.Tryd.prog.eqGuardType Go.Proofs.Tryd.prog.depth 27 = false := by kernel_rfl
end Go.Rx
/- The shelf's contracts at this program (written by the kit's tools lay-shelf and lay-plain; picked by shelf2.py). -/
namespace Go.Proofs
open Go.Shelf
def Tryd.lays129_ren : Go.Shelf.Ren := ⟨fun | 129 => 74 | n => n, fun | 53 => 23 | 3 => 3 | 4 => 4 | 46 => 82 | 5 => 5 | 9 => 9 | n => n, fun | n => n⟩
def Tryd.lays317_ren : Go.Shelf.Ren := ⟨fun | 317 => 73 | n => n, fun | 3 => 3 | 46 => 82 | n => n, fun | n => n⟩
def Tryd.lays318_ren : Go.Shelf.Ren := ⟨fun | 318 => 75 | n => n, fun | 3 => 3 | 4 => 4 | n => n, fun | n => n⟩
def Tryd.lays283_ren : Go.Shelf.Ren := ⟨fun | 283 => 63 | n => n, fun | 3 => 3 | 9 => 9 | 4 => 4 | n => n, fun | n => n⟩
theorem Tryd.lays283 : Go.Proofs.Lays.n283 Tryd.prog Tryd.lays283_ren := {
  mixed := by kernel_rfl
  f283 := Tryd.func63.trans (congrArg some (by kernel_rfl))
  t3 := Tryd.underlying3
  a3 := Tryd.isAgg3
  z3 := Tryd.sizeOf3
  v3 := Tryd.zeroValue3
  t4 := Tryd.underlying4
  a4 := Tryd.isAgg4
  z4 := Tryd.sizeOf4
  v4 := Tryd.zeroValue4
  t9 := Tryd.underlying9
  a9 := Tryd.isAgg9
  z9 := Tryd.sizeOf9
  v9 := Tryd.zeroValue9 }
open Go.Lib in
theorem Tryd.internal_strconv_small (i : Nat) (h : i < 100) (w : World) :
    Calls Tryd.prog 63 #[.int .i64 i] w fun e w' => e = .returned (.string ⟨(Lib.decDigits i).toArray⟩) ∧ w' = w := Any.internal_strconv_small Tryd.lays283 i h w
def Tryd.laysM284_ren : Go.Shelf.Ren := ⟨fun | 284 => 64 | 129 => 74 | 317 => 73 | 318 => 75 | n => n, fun | 53 => 23 | 3 => 3 | 212 => 103 | 0 => 0 | 4 => 4 | 46 => 82 | 5 => 5 | 9 => 9 | n => n, fun | 17 => 1 | n => n⟩
theorem Tryd.laysM284 : Go.Proofs.LaysM.n284 Tryd.prog Tryd.laysM284_ren := {
  mixed := by kernel_rfl
  f129 := Tryd.func74.trans (congrArg some (by kernel_rfl))
  f284 := Tryd.func64.trans (congrArg some (by kernel_rfl))
  f317 := Tryd.func73.trans (congrArg some (by kernel_rfl))
  f318 := Tryd.func75.trans (congrArg some (by kernel_rfl))
  t0 := Tryd.underlying0
  a0 := Tryd.isAgg0
  z0 := Tryd.sizeOf0
  v0 := Tryd.zeroValue0
  t3 := Tryd.underlying3
  a3 := Tryd.isAgg3
  z3 := Tryd.sizeOf3
  v3 := Tryd.zeroValue3
  t4 := Tryd.underlying4
  a4 := Tryd.isAgg4
  z4 := Tryd.sizeOf4
  v4 := Tryd.zeroValue4
  t5 := Tryd.underlying5
  a5 := Tryd.isAgg5
  z5 := Tryd.sizeOf5
  v5 := Tryd.zeroValue5
  t9 := Tryd.underlying9
  a9 := Tryd.isAgg9
  z9 := Tryd.sizeOf9
  v9 := Tryd.zeroValue9
  t46 := Tryd.underlying82
  a46 := Tryd.isAgg82
  z46 := Tryd.sizeOf82
  v46 := Tryd.zeroValue82
  t53 := Tryd.underlying23
  a53 := Tryd.isAgg23
  z53 := Tryd.sizeOf23
  v53 := Tryd.zeroValue23
  t212 := Tryd.underlying103
  a212 := Tryd.isAgg103
  z212 := Tryd.sizeOf103
  v212 := Tryd.zeroValue103
  g17 := by kernel_rfl
  i0 := by kernel_rfl
  i3 := by kernel_rfl
  i4 := by kernel_rfl
  i5 := by kernel_rfl
  i9 := by kernel_rfl
  i46 := by kernel_rfl
  i53 := by kernel_rfl
  i212 := by kernel_rfl
  m17 := by kernel_rfl }
open Go.Lib in
theorem Tryd.internal_strconv_numDigits (u : Nat) (h1 : 1 ≤ u) (h2 : u < 18446744073709551616) (w : World) (htab : Lib.TabIs Tryd.prog w "internal/strconv.uint64pow10" .u64 Lib.pow10Tab) :
    Calls Tryd.prog 64 #[.int .u64 u] w fun e w' => e = .returned (.int .i64 (Lib.nDigits u)) ∧ w' = w := Any.internal_strconv_numDigits Tryd.laysM284 u h1 h2 w htab
def Tryd.lays285_ren : Go.Shelf.Ren := ⟨fun | 285 => 65 | n => n, fun | 37 => 66 | 53 => 23 | 3 => 3 | 4 => 4 | 51 => 22 | 9 => 9 | 5 => 5 | 0 => 0 | n => n, fun | n => n⟩
theorem Tryd.lays285 : Go.Proofs.Lays.n285 Tryd.prog Tryd.lays285_ren := {
  mixed := by kernel_rfl
  f285 := Tryd.func65.trans (congrArg some (by kernel_rfl))
  t0 := Tryd.underlying0
  a0 := Tryd.isAgg0
  z0 := Tryd.sizeOf0
  v0 := Tryd.zeroValue0
  t3 := Tryd.underlying3
  a3 := Tryd.isAgg3
  z3 := Tryd.sizeOf3
  v3 := Tryd.zeroValue3
  t4 := Tryd.underlying4
  a4 := Tryd.isAgg4
  z4 := Tryd.sizeOf4
  v4 := Tryd.zeroValue4
  t5 := Tryd.underlying5
  a5 := Tryd.isAgg5
  z5 := Tryd.sizeOf5
  v5 := Tryd.zeroValue5
  t9 := Tryd.underlying9
  a9 := Tryd.isAgg9
  z9 := Tryd.sizeOf9
  v9 := Tryd.zeroValue9
  t37 := Tryd.underlying66
  a37 := Tryd.isAgg66
  z37 := Tryd.sizeOf66
  v37 := Tryd.zeroValue66
  t51 := Tryd.underlying22
  a51 := Tryd.isAgg22
  z51 := Tryd.sizeOf22
  v51 := Tryd.zeroValue22
  t53 := Tryd.underlying23
  a53 := Tryd.isAgg23
  z53 := Tryd.sizeOf23
  v53 := Tryd.zeroValue23 }
open Go.RowKit Go.Sort Go.Lib in
theorem Tryd.internal_strconv_formatBase10 (blk off cap : Nat) (u : Nat) (d : Array UInt8) (w : World) (hH : Holds (fun (b : UInt8) => Value.int .u8 (b.toNat : Int)) w blk off d) (hu : u < 10 ^ d.size) (hu64 : u < 18446744073709551616) (hsz : d.size < 4611686018427387904) :
    Calls Tryd.prog 65 #[.slice (some ⟨blk, off, none⟩) d.size cap, .int .u64 u] w fun e w' =>
      e = .returned (.tuple #[]) ∧ ∃ (n v' : Nat) (dk : Array UInt8), w' = (putRow (fun (b : UInt8) => Value.int .u8 (b.toNat : Int)) w blk off dk).drewN n ∧ FmtInv d.size u 0 v' dk := Any.internal_strconv_formatBase10 Tryd.lays285 blk off cap u d w hH hu hu64 hsz
def Tryd.laysM246_ren : Go.Shelf.Ren := ⟨fun | 246 => 62 | 283 => 63 | 284 => 64 | 285 => 65 | 286 => 66 | 129 => 74 | 317 => 73 | 318 => 75 | 319 => 76 | 320 => 77 | 337 => 80 | 338 => 81 | n => n, fun | 2 => 2 | 3 => 3 | 9 => 9 | 4 => 4 | 171 => 92 | 0 => 0 | 53 => 23 | 37 => 66 | 5 => 5 | 173 => 95 | 212 => 103 | 51 => 22 | 20 => 20 | 213 => 104 | 46 => 82 | 232 => 115 | 233 => 116 | n => n, fun | 17 => 1 | 18 => 4 | 19 => 5 | n => n⟩
def Tryd.lays246_ren : Go.Shelf.Ren := ⟨fun | 246 => 62 | 283 => 63 | 284 => 64 | 285 => 65 | 286 => 66 | 129 => 74 | 317 => 73 | 318 => 75 | 319 => 76 | 320 => 77 | 337 => 80 | 338 => 81 | n => n, fun | 2 => 2 | 3 => 3 | 9 => 9 | 4 => 4 | 171 => 92 | 0 => 0 | 53 => 23 | 37 => 66 | 5 => 5 | 173 => 95 | 212 => 103 | 51 => 22 | 20 => 20 | 213 => 104 | 46 => 82 | 232 => 115 | 233 => 116 | n => n, fun | 17 => 1 | 18 => 4 | 19 => 5 | n => n⟩
def Tryd.laysM243_ren : Go.Shelf.Ren := ⟨fun | 243 => 54 | 246 => 62 | 283 => 63 | 284 => 64 | 285 => 65 | 286 => 66 | 129 => 74 | 317 => 73 | 318 => 75 | 319 => 76 | 320 => 77 | 337 => 80 | 338 => 81 | n => n, fun | 3 => 3 | 9 => 9 | 2 => 2 | 4 => 4 | 171 => 92 | 0 => 0 | 53 => 23 | 37 => 66 | 5 => 5 | 173 => 95 | 212 => 103 | 51 => 22 | 20 => 20 | 213 => 104 | 46 => 82 | 232 => 115 | 233 => 116 | n => n, fun | 17 => 1 | 18 => 4 | 19 => 5 | n => n⟩
def Tryd.lays243_ren : Go.Shelf.Ren := ⟨fun | 243 => 54 | 246 => 62 | 283 => 63 | 284 => 64 | 285 => 65 | 286 => 66 | 129 => 74 | 317 => 73 | 318 => 75 | 319 => 76 | 320 => 77 | 337 => 80 | 338 => 81 | n => n, fun | 3 => 3 | 9 => 9 | 2 => 2 | 4 => 4 | 171 => 92 | 0 => 0 | 53 => 23 | 37 => 66 | 5 => 5 | 173 => 95 | 212 => 103 | 51 => 22 | 20 => 20 | 213 => 104 | 46 => 82 | 232 => 115 | 233 => 116 | n => n, fun | 17 => 1 | 18 => 4 | 19 => 5 | n => n⟩
def Tryd.laysM171_ren : Go.Shelf.Ren := ⟨fun | 171 => 38 | 243 => 54 | 246 => 62 | 283 => 63 | 284 => 64 | 285 => 65 | 286 => 66 | 129 => 74 | 317 => 73 | 318 => 75 | 319 => 76 | 320 => 77 | 337 => 80 | 338 => 81 | n => n, fun | 3 => 3 | 9 => 9 | 2 => 2 | 4 => 4 | 171 => 92 | 0 => 0 | 53 => 23 | 37 => 66 | 5 => 5 | 173 => 95 | 212 => 103 | 51 => 22 | 20 => 20 | 213 => 104 | 46 => 82 | 232 => 115 | 233 => 116 | n => n, fun | 17 => 1 | 18 => 4 | 19 => 5 | n => n⟩
theorem Tryd.laysM171 : Go.Proofs.LaysM.n171 Tryd.prog Tryd.laysM171_ren := {
  mixed := by kernel_rfl
  f129 := Tryd.func74.trans (congrArg some (by kernel_rfl))
  f171 := Tryd.func38.trans (congrArg some (by kernel_rfl))
  f243 := Tryd.func54.trans (congrArg some (by kernel_rfl))
  f246 := Tryd.func62.trans (congrArg some (by kernel_rfl))
  f283 := Tryd.func63.trans (congrArg some (by kernel_rfl))
  f284 := Tryd.func64.trans (congrArg some (by kernel_rfl))
  f285 := Tryd.func65.trans (congrArg some (by kernel_rfl))
  f286 := Tryd.func66.trans (congrArg some (by kernel_rfl))
  f317 := Tryd.func73.trans (congrArg some (by kernel_rfl))
  f318 := Tryd.func75.trans (congrArg some (by kernel_rfl))
  f319 := Tryd.func76.trans (congrArg some (by kernel_rfl))
  f320 := Tryd.func77.trans (congrArg some (by kernel_rfl))
  f337 := Tryd.func80.trans (congrArg some (by kernel_rfl))
  f338 := Tryd.func81.trans (congrArg some (by kernel_rfl))
  t0 := Tryd.underlying0
  a0 := Tryd.isAgg0
  z0 := Tryd.sizeOf0
  v0 := Tryd.zeroValue0
  t2 := Tryd.underlying2
  a2 := Tryd.isAgg2
  z2 := Tryd.sizeOf2
  v2 := Tryd.zeroValue2
  t3 := Tryd.underlying3
  a3 := Tryd.isAgg3
  z3 := Tryd.sizeOf3
  v3 := Tryd.zeroValue3
  t4 := Tryd.underlying4
  a4 := Tryd.isAgg4
  z4 := Tryd.sizeOf4
  v4 := Tryd.zeroValue4
  t5 := Tryd.underlying5
  a5 := Tryd.isAgg5
  z5 := Tryd.sizeOf5
  v5 := Tryd.zeroValue5
  t9 := Tryd.underlying9
  a9 := Tryd.isAgg9
  z9 := Tryd.sizeOf9
  v9 := Tryd.zeroValue9
  t20 := Tryd.underlying20
  a20 := Tryd.isAgg20
  z20 := Tryd.sizeOf20
  v20 := Tryd.zeroValue20
  t37 := Tryd.underlying66
  a37 := Tryd.isAgg66
  z37 := Tryd.sizeOf66
  v37 := Tryd.zeroValue66
  t46 := Tryd.underlying82
  a46 := Tryd.isAgg82
  z46 := Tryd.sizeOf82
  v46 := Tryd.zeroValue82
  t51 := Tryd.underlying22
  a51 := Tryd.isAgg22
  z51 := Tryd.sizeOf22
  v51 := Tryd.zeroValue22
  t53 := Tryd.underlying23
  a53 := Tryd.isAgg23
  z53 := Tryd.sizeOf23
  v53 := Tryd.zeroValue23
  t171 := Tryd.underlying92
  a171 := Tryd.isAgg92
  z171 := Tryd.sizeOf92
  v171 := Tryd.zeroValue92
  t173 := Tryd.underlying95
  a173 := Tryd.isAgg95
  z173 := Tryd.sizeOf95
  v173 := Tryd.zeroValue95
  t212 := Tryd.underlying103
  a212 := Tryd.isAgg103
  z212 := Tryd.sizeOf103
  v212 := Tryd.zeroValue103
  t213 := Tryd.underlying104
  a213 := Tryd.isAgg104
  z213 := Tryd.sizeOf104
  t232 := Tryd.underlying115
  a232 := Tryd.isAgg115
  z232 := Tryd.sizeOf115
  v232 := Tryd.zeroValue115
  t233 := Tryd.underlying116
  a233 := Tryd.isAgg116
  z233 := Tryd.sizeOf116
  v233 := Tryd.zeroValue116
  g17 := by kernel_rfl
  g18 := by kernel_rfl
  g19 := by kernel_rfl
  i0 := by kernel_rfl
  i2 := by kernel_rfl
  i3 := by kernel_rfl
  i4 := by kernel_rfl
  i5 := by kernel_rfl
  i9 := by kernel_rfl
  i20 := by kernel_rfl
  i37 := by kernel_rfl
  i46 := by kernel_rfl
  i51 := by kernel_rfl
  i53 := by kernel_rfl
  i171 := by kernel_rfl
  i173 := by kernel_rfl
  i212 := by kernel_rfl
  i232 := by kernel_rfl
  i233 := by kernel_rfl
  m17 := by kernel_rfl
  m18 := by kernel_rfl
  m19 := by kernel_rfl }
open Go.RowKit Go.Sort Go.Lib in
theorem Tryd.strconv_Itoa (n : Int) (h0 : -9223372036854775808 ≤ n) (h1 : n ≤ 9223372036854775807) (w : World) (htab : Lib.TabIs Tryd.prog w "internal/strconv.uint64pow10" .u64 Lib.pow10Tab) :
    Calls Tryd.prog 38 #[.int .i64 n] w fun e w' => e = .returned (.string ⟨(Lib.itoa n).toArray⟩) ∧ ∃ k os, w' = grow (w.drewN k) os := Any.strconv_Itoa Tryd.laysM171 n h0 h1 w htab
def Tryd.lays171_ren : Go.Shelf.Ren := ⟨fun | 171 => 38 | 243 => 54 | 246 => 62 | 283 => 63 | 284 => 64 | 285 => 65 | 286 => 66 | 129 => 74 | 317 => 73 | 318 => 75 | 319 => 76 | 320 => 77 | 337 => 80 | 338 => 81 | n => n, fun | 3 => 3 | 9 => 9 | 2 => 2 | 4 => 4 | 171 => 92 | 0 => 0 | 53 => 23 | 37 => 66 | 5 => 5 | 173 => 95 | 212 => 103 | 51 => 22 | 20 => 20 | 213 => 104 | 46 => 82 | 232 => 115 | 233 => 116 | n => n, fun | 17 => 1 | 18 => 4 | 19 => 5 | n => n⟩
def Tryd.laysM316_ren : Go.Shelf.Ren := ⟨fun | 316 => 78 | n => n, fun | 9 => 9 | 3 => 3 | 4 => 4 | 37 => 66 | 0 => 0 | 127 => 79 | 5 => 5 | n => n, fun | n => n⟩
def Tryd.laysM279_ren : Go.Shelf.Ren := ⟨fun | 279 => 69 | 316 => 78 | n => n, fun | 9 => 9 | 168 => 99 | 75 => 71 | 210 => 109 | 3 => 3 | 4 => 4 | 37 => 66 | 0 => 0 | 127 => 79 | 80 => 74 | 5 => 5 | n => n, fun | 15 => 2 | n => n⟩
def Tryd.laysC245_ren : Go.Shelf.Ren := ⟨fun | 245 => 61 | 279 => 69 | 280 => 70 | 281 => 71 | 282 => 72 | 316 => 78 | 171 => 38 | 205 => 79 | 243 => 54 | 246 => 62 | 283 => 63 | 284 => 64 | 285 => 65 | 286 => 66 | 129 => 74 | 317 => 73 | 318 => 75 | 319 => 76 | 320 => 77 | 337 => 80 | 338 => 81 | n => n, fun | 9 => 9 | 3 => 3 | 75 => 71 | 167 => 97 | 4 => 4 | 168 => 99 | 210 => 109 | 37 => 66 | 0 => 0 | 127 => 79 | 145 => 114 | 143 => 112 | 2 => 2 | 171 => 92 | 53 => 23 | 5 => 5 | 173 => 95 | 212 => 103 | 51 => 22 | 20 => 20 | 213 => 104 | 46 => 82 | 232 => 115 | 233 => 116 | 80 => 74 | n => n, fun | 15 => 2 | 16 => 3 | 17 => 1 | 18 => 4 | 19 => 5 | n => n⟩
def Tryd.lays287_ren : Go.Shelf.Ren := ⟨fun | 287 => 60 | 321 => 67 | 322 => 68 | n => n, fun | 9 => 9 | 3 => 3 | 53 => 23 | 75 => 71 | 4 => 4 | 167 => 97 | 5 => 5 | 46 => 82 | 37 => 66 | 0 => 0 | 21 => 21 | 80 => 74 | n => n, fun | n => n⟩
def Tryd.laysM280_ren : Go.Shelf.Ren := ⟨fun | 280 => 70 | 316 => 78 | n => n, fun | 9 => 9 | 168 => 99 | 75 => 71 | 210 => 109 | 3 => 3 | 4 => 4 | 37 => 66 | 0 => 0 | 127 => 79 | 80 => 74 | 5 => 5 | n => n, fun | 16 => 3 | n => n⟩
def Tryd.laysPu14_ren : Go.Shelf.Ren := ⟨fun | 14 => 53 | 16 => 60 | 17 => 61 | 19 => 67 | 20 => 68 | 21 => 69 | 22 => 70 | 23 => 71 | 24 => 72 | 25 => 78 | 27 => 38 | 26 => 79 | 28 => 54 | 29 => 62 | 30 => 63 | 31 => 64 | 32 => 65 | 33 => 66 | 35 => 74 | 34 => 73 | 36 => 75 | 37 => 76 | 38 => 77 | 39 => 80 | 40 => 81 | n => n, fun | 9 => 9 | 3 => 3 | 22 => 23 | 24 => 71 | 25 => 83 | 4 => 4 | 34 => 97 | 5 => 5 | 36 => 82 | 37 => 66 | 0 => 0 | 39 => 99 | 21 => 21 | 44 => 109 | 47 => 79 | 50 => 114 | 48 => 112 | 2 => 2 | 52 => 92 | 55 => 95 | 59 => 103 | 60 => 22 | 20 => 20 | 61 => 104 | 65 => 115 | 66 => 116 | 67 => 74 | n => n, fun | 0 => 2 | 1 => 3 | 2 => 1 | 3 => 4 | 4 => 5 | n => n⟩
theorem Tryd.laysPu14 : Go.Proofs.LaysPu.n14 Tryd.prog Tryd.laysPu14_ren := {
  mixed := by kernel_rfl
  f14 := Tryd.func53.trans (congrArg some (by kernel_rfl))
  f16 := Tryd.func60.trans (congrArg some (by kernel_rfl))
  f17 := Tryd.func61.trans (congrArg some (by kernel_rfl))
  f19 := Tryd.func67.trans (congrArg some (by kernel_rfl))
  f20 := Tryd.func68.trans (congrArg some (by kernel_rfl))
  f21 := Tryd.func69.trans (congrArg some (by kernel_rfl))
  f22 := Tryd.func70.trans (congrArg some (by kernel_rfl))
  f23 := Tryd.func71.trans (congrArg some (by kernel_rfl))
  f24 := Tryd.func72.trans (congrArg some (by kernel_rfl))
  f25 := Tryd.func78.trans (congrArg some (by kernel_rfl))
  f26 := Tryd.func79.trans (congrArg some (by kernel_rfl))
  f27 := Tryd.func38.trans (congrArg some (by kernel_rfl))
  f28 := Tryd.func54.trans (congrArg some (by kernel_rfl))
  f29 := Tryd.func62.trans (congrArg some (by kernel_rfl))
  f30 := Tryd.func63.trans (congrArg some (by kernel_rfl))
  f31 := Tryd.func64.trans (congrArg some (by kernel_rfl))
  f32 := Tryd.func65.trans (congrArg some (by kernel_rfl))
  f33 := Tryd.func66.trans (congrArg some (by kernel_rfl))
  f34 := Tryd.func73.trans (congrArg some (by kernel_rfl))
  f35 := Tryd.func74.trans (congrArg some (by kernel_rfl))
  f36 := Tryd.func75.trans (congrArg some (by kernel_rfl))
  f37 := Tryd.func76.trans (congrArg some (by kernel_rfl))
  f38 := Tryd.func77.trans (congrArg some (by kernel_rfl))
  f39 := Tryd.func80.trans (congrArg some (by kernel_rfl))
  f40 := Tryd.func81.trans (congrArg some (by kernel_rfl))
  t0 := Tryd.underlying0
  a0 := Tryd.isAgg0
  z0 := Tryd.sizeOf0
  v0 := Tryd.zeroValue0
  i0 := by kernel_rfl
  t2 := Tryd.underlying2
  a2 := Tryd.isAgg2
  z2 := Tryd.sizeOf2
  v2 := Tryd.zeroValue2
  i2 := by kernel_rfl
  t3 := Tryd.underlying3
  a3 := Tryd.isAgg3
  z3 := Tryd.sizeOf3
  v3 := Tryd.zeroValue3
  i3 := by kernel_rfl
  t4 := Tryd.underlying4
  a4 := Tryd.isAgg4
  z4 := Tryd.sizeOf4
  v4 := Tryd.zeroValue4
  i4 := by kernel_rfl
  t5 := Tryd.underlying5
  a5 := Tryd.isAgg5
  z5 := Tryd.sizeOf5
  v5 := Tryd.zeroValue5
  i5 := by kernel_rfl
  t9 := Tryd.underlying9
  a9 := Tryd.isAgg9
  z9 := Tryd.sizeOf9
  v9 := Tryd.zeroValue9
  i9 := by kernel_rfl
  t20 := Tryd.underlying20
  a20 := Tryd.isAgg20
  z20 := Tryd.sizeOf20
  v20 := Tryd.zeroValue20
  i20 := by kernel_rfl
  t21 := Tryd.underlying21
  a21 := Tryd.isAgg21
  z21 := Tryd.sizeOf21
  v21 := Tryd.zeroValue21
  i21 := by kernel_rfl
  t22 := Tryd.underlying23
  a22 := Tryd.isAgg23
  z22 := Tryd.sizeOf23
  v22 := Tryd.zeroValue23
  i22 := by kernel_rfl
  t24 := Tryd.underlying71
  a24 := Tryd.isAgg71
  z24 := Tryd.sizeOf71
  v24 := Tryd.zeroValue71
  i24 := by kernel_rfl
  t25 := Tryd.underlying83
  a25 := Tryd.isAgg83
  z25 := Tryd.sizeOf83
  v25 := Tryd.zeroValue83
  i25 := by kernel_rfl
  t34 := Tryd.underlying97
  a34 := Tryd.isAgg97
  z34 := Tryd.sizeOf97
  v34 := Tryd.zeroValue97
  i34 := by kernel_rfl
  c34 := by kernel_rfl
  t36 := Tryd.underlying82
  a36 := Tryd.isAgg82
  z36 := Tryd.sizeOf82
  v36 := Tryd.zeroValue82
  i36 := by kernel_rfl
  t37 := Tryd.underlying66
  a37 := Tryd.isAgg66
  z37 := Tryd.sizeOf66
  v37 := Tryd.zeroValue66
  i37 := by kernel_rfl
  t39 := Tryd.underlying99
  a39 := Tryd.isAgg99
  z39 := Tryd.sizeOf99
  v39 := Tryd.zeroValue99
  i39 := by kernel_rfl
  t44 := Tryd.underlying109
  a44 := Tryd.isAgg109
  z44 := Tryd.sizeOf109
  v44 := Tryd.zeroValue109
  i44 := by kernel_rfl
  t47 := Tryd.underlying79
  a47 := Tryd.isAgg79
  z47 := Tryd.sizeOf79
  v47 := Tryd.zeroValue79
  i47 := by kernel_rfl
  t48 := Tryd.underlying112
  a48 := Tryd.isAgg112
  z48 := Tryd.sizeOf112
  v48 := Tryd.zeroValue112
  i48 := by kernel_rfl
  t50 := Tryd.underlying114
  a50 := Tryd.isAgg114
  z50 := Tryd.sizeOf114
  v50 := Tryd.zeroValue114
  i50 := by kernel_rfl
  t52 := Tryd.underlying92
  a52 := Tryd.isAgg92
  z52 := Tryd.sizeOf92
  v52 := Tryd.zeroValue92
  i52 := by kernel_rfl
  t55 := Tryd.underlying95
  a55 := Tryd.isAgg95
  z55 := Tryd.sizeOf95
  v55 := Tryd.zeroValue95
  i55 := by kernel_rfl
  t59 := Tryd.underlying103
  a59 := Tryd.isAgg103
  z59 := Tryd.sizeOf103
  v59 := Tryd.zeroValue103
  i59 := by kernel_rfl
  t60 := Tryd.underlying22
  a60 := Tryd.isAgg22
  z60 := Tryd.sizeOf22
  v60 := Tryd.zeroValue22
  i60 := by kernel_rfl
  t61 := Tryd.underlying104
  a61 := Tryd.isAgg104
  z61 := Tryd.sizeOf104
  t65 := Tryd.underlying115
  a65 := Tryd.isAgg115
  z65 := Tryd.sizeOf115
  v65 := Tryd.zeroValue115
  i65 := by kernel_rfl
  t66 := Tryd.underlying116
  a66 := Tryd.isAgg116
  z66 := Tryd.sizeOf116
  v66 := Tryd.zeroValue116
  i66 := by kernel_rfl
  t67 := Tryd.underlying74
  a67 := Tryd.isAgg74
  z67 := Tryd.sizeOf74
  v67 := Tryd.zeroValue74
  i67 := by kernel_rfl
  g0 := by kernel_rfl
  m0 := by kernel_rfl
  g1 := by kernel_rfl
  m1 := by kernel_rfl
  g2 := by kernel_rfl
  m2 := by kernel_rfl
  g3 := by kernel_rfl
  m3 := by kernel_rfl
  g4 := by kernel_rfl
  m4 := by kernel_rfl }
open Go.RowKit in
theorem Tryd.strconv_ParseUint_10_at64_ok (s : ByteArray) (hmax : s.size ≤ 9223372036854775806) (u : Nat) (h : Lib.parseUintB 64 s.data.toList = .ok u) (w : World) :
    Calls Tryd.prog 53 #[.string s, .int .i64 10, .int .i64 64] w fun e w' => e = .returned (.tuple #[.int .u64 u, .nilIface]) ∧ (w' = w ∨ w' = Lib.bytesWorld w 5 s) := Any.strconv_ParseUint_10_at64_ok Tryd.laysPu14 s hmax u h w
open Go.RowKit in
theorem Tryd.strconv_ParseUint_10_at64_syntax_var (s : ByteArray) (hlim : s.size ≤ 281474976710656) (h : Lib.parseUintB 64 s.data.toList = Lib.parseUintB 64 []) (tp : TypeId) (p : Value) (w : World) (hvar : w.var? Tryd.prog "strconv.ErrSyntax" = some #[.iface tp p]) :
    Calls Tryd.prog 53 #[.string s, .int .i64 10, .int .i64 64] w fun e w' => ∃ N, e = .returned (.tuple #[.int .u64 0, .iface 99 (.pointer (some ⟨N, 0, none⟩))]) ∧ w.heap.size ≤ N ∧ w'.heap[N]? = some (.cells #[.string ⟨#[80, 97, 114, 115, 101, 85, 105, 110, 116]⟩, .string s, .iface tp p] 109 (0, 0)) ∧ Below w.heap.size w w' := Any.strconv_ParseUint_10_at64_syntax_var Tryd.laysPu14 s hlim (h.trans rfl) tp p w hvar
open Go.RowKit in
theorem Tryd.strconv_ParseUint_10_at64_range_var (s : ByteArray) (hlim : s.size ≤ 281474976710656) (h : Lib.parseUintB 64 s.data.toList = .range) (tp : TypeId) (p : Value) (w : World) (hvar : w.var? Tryd.prog "strconv.ErrRange" = some #[.iface tp p]) :
    Calls Tryd.prog 53 #[.string s, .int .i64 10, .int .i64 64] w fun e w' => ∃ N, e = .returned (.tuple #[.int .u64 18446744073709551615, .iface 99 (.pointer (some ⟨N, 0, none⟩))]) ∧ w.heap.size ≤ N ∧ w'.heap[N]? = some (.cells #[.string ⟨#[80, 97, 114, 115, 101, 85, 105, 110, 116]⟩, .string s, .iface tp p] 109 (0, 0)) ∧ Below w.heap.size w w' := Any.strconv_ParseUint_10_at64_range_var Tryd.laysPu14 s hlim (h.trans rfl) tp p w hvar
end Go.Proofs
/- strconv.FormatUint at base 10 and text.Decimal: the numeral. (Turned from the kit's worked walk of FormatInt: a row of bytes from place 0.) -/
namespace Go.Proofs.YtonoamdonmbkpaaDoor
open Go Go.RowKit Go.Sort Go.Lib
theorem holds_zero0 (w : World) (T : TypeId) (nd : Nat) (hs : nd ≤ 24) : Holds (fun (b : UInt8) => Value.int .u8 (b.toNat : Int)) (w.alloc (.cells zeros24 T)) w.heap.size 0 (Array.replicate nd (0 : UInt8)) := fun j hj => by
  have hj' : j < nd := by simpa using hj
  refine ⟨?_, World.frozen?_alloc_new _ _ _ _⟩
  rw [World.cell?_alloc_new, zeros24_at _ (by omega), getElem!_pos _ j hj]
  simp
theorem fin_pos0 (w : World) (o : Obj) (dk : Array UInt8) (k : Nat) : ∃ os, (putRow (fun (b : UInt8) => Value.int .u8 (b.toNat : Int)) (w.alloc o) w.heap.size 0 dk).drewN k = grow (w.drewN k) os := by
  rw [alloc_eq_grow]
  obtain ⟨os', _, e⟩ := putRow_grow_new (fun (b : UInt8) => Value.int .u8 (b.toNat : Int)) w #[o] w.heap.size 0 dk (Nat.le_refl _)
  exact ⟨os', by rw [e]; rfl⟩
set_option maxRecDepth 100000 in
theorem fmtUint_small (i : Nat) (hi : i < 100) (w : World) : Calls Go.Proofs.Tryd.prog 55 #[.int .u64 i, .int .i64 10] w fun e w' => e = .returned (.string ⟨(Lib.decDigits i).toArray⟩) ∧ w' = w := by
  have hcv : IntKind.i64.wrap (i : Int) = (i : Int) := by rw [IntKind.wrap_i64]; omega
  go_enter Tryd.func55, Tryd.ntmps55
  go_wp2_with (go_at_call 63; refine (Tryd.internal_strconv_small i hi _).mono ?_; rintro e w' ⟨rfl, rfl⟩)
  go_ret
  exact ⟨rfl, rfl⟩
set_option maxHeartbeats 6400000 in
set_option maxRecDepth 100000 in
theorem fmtUint_big (u : Nat) (h1 : 100 ≤ u) (hu64 : u < 18446744073709551616) (w : World) (htab : Lib.TabIs Go.Proofs.Tryd.prog w "internal/strconv.uint64pow10" .u64 Lib.pow10Tab) :
    Calls Go.Proofs.Tryd.prog 55 #[.int .u64 u, .int .i64 10] w fun e w' => e = .returned (.string ⟨(Lib.decDigits u).toArray⟩) ∧ ∃ k os, w' = grow (w.drewN k) os := by
  have hu1 : 1 ≤ u := by omega
  have hnd20 : Lib.nDigits u ≤ 20 := by have := Lib.numDigits_eq u hu1 hu64; split at this <;> omega
  have hb3 : Lib.nDigits u ≤ 23 := by omega
  have hal : Go.Proofs.Tryd.prog.arrayLen 92 = 24 := by simp [Program.arrayLen, Tryd.underlying92]
  have hsl1 : ∀ W, (Instr.sliceAt 92 (.pointer (some ⟨w.heap.size, 0, none⟩)) none (some (.int .i64 (Lib.nDigits u : Int))) none).run Go.Proofs.Tryd.prog W = .ok (.slice (some ⟨w.heap.size, 0, none⟩) (Lib.nDigits u) 24) W := fun W => by
    rw [run_sliceAt_array_h W 92 ⟨w.heap.size, 0, none⟩ (by simp [Program.arrayLen, Program.elem, Tryd.underlying92]) .i64 (Lib.nDigits u : Int) (by omega) (by rw [hal]; omega)]
    go_simp
  have hH0 := holds_zero0 w 92 (Lib.nDigits u) (by omega)
  have hfmt := Tryd.internal_strconv_formatBase10 w.heap.size 0 24 u (Array.replicate (Lib.nDigits u) 0) (w.alloc (.cells Lib.zeros24 92)) hH0 (by rw [Array.size_replicate]; exact Lib.lt_pow_nDigits u) hu64 (by rw [Array.size_replicate]; omega)
  rw [Array.size_replicate] at hfmt
  have HH0 := Lib.hid hH0
  clear hH0 hal
  go_enter Tryd.func55, Tryd.ntmps55
  go_wp2_with (first
    | (go_at_call 64; refine (Tryd.internal_strconv_numDigits u hu1 hu64 _ (Lib.tabIs_alloc htab _)).mono ?_; rintro e w' ⟨rfl, rfl⟩))
  go_at_call 65
  refine hfmt.mono ?_
  rintro e w' ⟨rfl, k, v', dk, rfl, hF⟩
  have hcv : (convert 66 9 (.slice (some ⟨w.heap.size, 0, none⟩) (Lib.nDigits u) 24)).run Go.Proofs.Tryd.prog ((putRow (fun (b : UInt8) => Value.int .u8 (b.toNat : Int)) (w.alloc (.cells Lib.zeros24 92)) w.heap.size 0 dk).drewN k) = .ok (.string ⟨(Lib.decDigits u).toArray⟩) ((putRow (fun (b : UInt8) => Value.int .u8 (b.toNat : Int)) (w.alloc (.cells Lib.zeros24 92)) w.heap.size 0 dk).drewN k) := by
    have h := run_convert_bytes_back (P := Go.Proofs.Tryd.prog) ((putRow (fun (b : UInt8) => Value.int .u8 (b.toNat : Int)) (w.alloc (.cells Lib.zeros24 92)) w.heap.size 0 dk).drewN k) 66 9 5 ⟨w.heap.size, 0, none⟩ 24 (Lib.decDigits u) Tryd.underlying66 Tryd.underlying5 Tryd.underlying9 (fun j hj => by
      rw [Lib.row_is_numeral hF j hj, Lib.add_plain, World.cell?_drewN]
      exact cell?_putRow (fun (b : UInt8) => Value.int .u8 (b.toNat : Int)) _ w.heap.size 0 _ dk HH0.out (by rw [hF.size, Array.size_replicate]) j (by rw [hF.size]; rw [Lib.decDigits_length] at hj; exact hj))
    rw [Lib.decDigits_length] at h
    exact h
  go_wp2
  go_ret
  obtain ⟨os, eo⟩ := fin_pos0 w (.cells Lib.zeros24 92) dk k
  exact ⟨rfl, k, os, eo⟩
theorem grow_below (w : World) (k : Nat) (os : Array Obj) : Below w.heap.size w (grow (w.drewN k) os) :=
  ⟨rfl, rfl, rfl, by simp [grow, World.drewN], fun i hi => by simp [grow, World.drewN, Array.getElem?_append, hi]⟩
theorem fmtUint (u : Nat) (hu64 : u < 18446744073709551616) (w : World) (htab : Lib.TabIs Go.Proofs.Tryd.prog w "internal/strconv.uint64pow10" .u64 Lib.pow10Tab) :
    Calls Go.Proofs.Tryd.prog 55 #[.int .u64 u, .int .i64 10] w fun e w' => e = .returned (.string ⟨(Lib.decDigits u).toArray⟩) ∧ Below w.heap.size w w' := by
  by_cases h : u < 100
  · refine (fmtUint_small u h w).mono ?_
    rintro e w' ⟨rfl, rfl⟩
    exact ⟨rfl, Below.refl _ _⟩
  · refine (fmtUint_big u (by omega) hu64 w htab).mono ?_
    rintro e w' ⟨rfl, k, os, rfl⟩
    exact ⟨rfl, grow_below w k os⟩
set_option maxRecDepth 100000 in
theorem fmtUintP (u : Nat) (hu64 : u < 18446744073709551616) (w : World) (htab : Lib.TabIs Go.Proofs.Tryd.prog w "internal/strconv.uint64pow10" .u64 Lib.pow10Tab) :
    Calls Go.Proofs.Tryd.prog 44 #[.int .u64 u, .int .i64 10] w fun e w' => e = .returned (.string ⟨(Lib.decDigits u).toArray⟩) ∧ Below w.heap.size w w' := by
  go_enter Tryd.func44, Tryd.ntmps44
  go_wp2_with (go_at_call 55; refine (fmtUint u hu64 _ htab).mono ?_; rintro e w' ⟨rfl, hb⟩)
  go_ret
  exact ⟨rfl, hb⟩
end Go.Proofs.YtonoamdonmbkpaaDoor
/- The plain law of numerals: what is read as a number by the loop is what ParseUint reads and Decimal writes back. -/
namespace Go.Rx
open Go Go.Lib
structure Tg where
  tag : Int
  value : ByteArray
deriving DecidableEq, Inhabited
def Tg.enc (t : Tg) : List Value := [.int .i64 t.tag, .string t.value]
def valueF (xs : List Tg) (tag : Int) : Option ByteArray := (xs.find? fun t => decide (t.tag = tag)).map (·.value)
def valueV : Option ByteArray → Value | some s => .tuple #[.string s, .bool true] | none => .tuple #[.string ⟨#[]⟩, .bool false]
def natRest : List UInt8 → Nat → Option Nat
  | [], n => some n
  | c :: r, n => if c.toNat < 48 ∨ 57 < c.toNat then none else if (18446744073709551615 - (c.toNat - 48)) / 10 < n then none else natRest r (n * 10 + (c.toNat - 48))
def natF (s : ByteArray) : Option Nat := if s.size < 1 ∨ 20 < s.size ∨ (1 < s.size ∧ bAt s 0 = 48) then none else natRest s.data.toList 0
def natV : Option Nat → Value | some n => .tuple #[.int .u64 (n : Int), .bool true] | none => .tuple #[.int .u64 0, .bool false]
def okOf : NumEnd Nat → Option Nat | .ok u => some u | _ => none
def numOf (s : ByteArray) : Option Nat := match okOf (parseUintB 64 s.data.toList) with | some u => if decDigits u = s.data.toList then some u else none | none => none
def numV : Option ByteArray → Value
  | none => .tuple #[.int .u64 0, .int .i64 30]
  | some s => match numOf s with | some n => .tuple #[.int .u64 (n : Int), .int .i64 0] | none => .tuple #[.int .u64 0, .int .i64 31]
theorem natRest_eq : ∀ (l : List UInt8) (n : Nat), natRest l n = okOf (parseUintM 18446744073709551615 n l)
  | [], n => rfl
  | c :: r, n => by
    simp only [natRest, parseUintM]
    by_cases h : 48 ≤ c.toNat ∧ c.toNat ≤ 57
    · rw [if_neg (by omega), if_pos h]
      by_cases h2 : (18446744073709551615 - (c.toNat - 48)) / 10 < n
      · rw [if_pos h2]
        by_cases h3 : 1844674407370955162 ≤ n
        · rw [if_pos h3]; rfl
        · rw [if_neg h3, if_pos (by omega)]; rfl
      · rw [if_neg h2, if_neg (by omega), if_neg (by omega)]
        exact natRest_eq r _
    · rw [if_pos (by omega), if_neg h]; rfl
theorem dec_step {acc d : Nat} (h : 1 ≤ acc) (hd : d ≤ 9) : decDigits (acc * 10 + d) = decDigits acc ++ [UInt8.ofNat (48 + d)] := by
  rw [decDigits, dif_neg (by omega), show (acc * 10 + d) / 10 = acc by omega, show (acc * 10 + d) % 10 = d by omega]
theorem ofDigit {c : UInt8} (h : 48 ≤ c.toNat) : UInt8.ofNat (48 + (c.toNat - 48)) = c := by
  rw [show 48 + (c.toNat - 48) = c.toNat by omega, UInt8.ofNat_toNat]
theorem dec_parse {M : Nat} : ∀ (l : List UInt8) (acc u : Nat), 1 ≤ acc → parseUintM M acc l = .ok u → decDigits u = decDigits acc ++ l
  | [], acc, u, _, h => by
    simp only [parseUintM] at h
    cases h
    simp
  | c :: r, acc, u, h1, h => by
    simp only [parseUintM] at h
    split at h
    · rename_i hc
      split at h
      · cases h
      · split at h
        · cases h
        · rw [dec_parse r _ u (by omega) h, dec_step h1 (by omega), ofDigit hc.1]
          simp
    · cases h
theorem dec_parse0 {M : Nat} {c : UInt8} {r : List UInt8} {u : Nat} (h : parseUintM M 0 (c :: r) = .ok u) (hz : ¬ (r ≠ [] ∧ c.toNat = 48)) : decDigits u = c :: r := by
  simp only [parseUintM] at h
  split at h
  · rename_i hc
    split at h
    · cases h
    · split at h
      · cases h
      · rw [Nat.zero_mul, Nat.zero_add] at h
        have h9 : decDigits (c.toNat - 48) = [c] := by rw [decDigits_one (by omega), ofDigit hc.1]
        by_cases hr : r = []
        · subst hr
          simp only [parseUintM] at h
          cases h
          exact h9
        · have h48 : c.toNat ≠ 48 := fun hh => hz ⟨hr, hh⟩
          rw [dec_parse r _ u (by omega) h, h9]
          rfl
  · cases h
theorem dec_head : ∀ (u : Nat), 1 ≤ u → ∃ c r, decDigits u = c :: r ∧ c.toNat ≠ 48 := by
  intro u
  induction u using Nat.strongRecOn with
  | _ u ih =>
    intro h1
    by_cases h : u < 10
    · refine ⟨_, [], decDigits_one h, ?_⟩
      rw [UInt8.toNat_ofNat']
      omega
    · obtain ⟨c, r, h2, h3⟩ := ih (u / 10) (by omega) (by omega)
      refine ⟨c, r ++ [UInt8.ofNat (48 + u % 10)], ?_, h3⟩
      rw [decDigits, dif_neg h, h2]
      rfl
theorem dec_len {u : Nat} (h : u < 18446744073709551616) : (decDigits u).length ≤ 20 := by
  rw [decDigits_length]
  by_cases h1 : 1 ≤ u
  · have := numDigits_eq u h1 h
    split at this <;> omega
  · rw [nDigits_small (by omega)]; omega
theorem natF_eq (s : ByteArray) : natF s = numOf s := by
  have e64 : (2 : Nat) ^ 64 - 1 = 18446744073709551615 := by decide
  have hsz : s.size = s.data.toList.length := by simp
  have hb : bAt s 0 = ((s.data.toList[0]?.getD 0).toNat : Int) := by
    unfold bAt
    simp [Array.getElem?_toList]
  unfold natF numOf
  rw [hsz, hb]
  generalize s.data.toList = l
  cases l with
  | nil => simp [parseUintB, okOf]
  | cons c r =>
    have hp : parseUintB 64 (c :: r) = parseUintM 18446744073709551615 0 (c :: r) := by unfold parseUintB; rw [if_neg (by simp), e64]
    rw [natRest_eq, hp]
    have hle := fun u => parseUintM_le 18446744073709551615 (c :: r) 0 u (Nat.zero_le _)
    cases hq : parseUintM 18446744073709551615 0 (c :: r) with
    | ok u =>
      have hu := hle u hq
      simp only [okOf]
      have hkey : decDigits u = c :: r ↔ ¬ ((c :: r).length < 1 ∨ 20 < (c :: r).length ∨ (1 < (c :: r).length ∧ (((c :: r)[0]?.getD 0).toNat : Int) = 48)) := by
        have e0 : (c :: r)[0]?.getD 0 = c := rfl
        rw [e0]
        constructor
        · intro hd hh
          have hl := dec_len (u := u) (by omega)
          rw [hd] at hl
          rcases hh with hh | hh | ⟨hh, hc⟩
          · simp at hh
          · omega
          · have hc2 : c.toNat = 48 := by exact_mod_cast hc
            by_cases h1 : 1 ≤ u
            · obtain ⟨c', r', he, hn⟩ := dec_head u h1
              rw [hd] at he
              cases he
              exact hn hc2
            · have : u = 0 := by omega
              subst this
              rw [decDigits_one (by omega)] at hd
              cases hd
              simp at hh
        · intro hh
          refine dec_parse0 hq ?_
          rintro ⟨hr, hc⟩
          refine hh (.inr (.inr ⟨?_, by rw [hc]; rfl⟩))
          have : 0 < r.length := List.length_pos_iff.2 hr
          simp
          omega
      by_cases hd : decDigits u = c :: r
      · rw [if_neg (hkey.1 hd), if_pos hd]
      · rw [if_pos (Classical.byContradiction fun h => hd (hkey.2 h)), if_neg hd]
    | _ => simp [okOf]
end Go.Rx
/- Value of both, and the law's comparison of tags. -/
namespace Go.Rx
open Go Go.RowKit
set_option linter.unusedVariables false
set_option linter.unusedSimpArgs false
theorem Tg.eqL_enc (x y : Tg) : eqL x.enc y.enc = decide (x = y) := by
  cases x; cases y
  simp [Tg.enc, eqL, eqV, Bool.decide_and]
end Go.Rx
/- text.Number: what ParseUint reads, if Decimal writes it back. -/
namespace Go.Proofs.YtonoamdonmbkpaaDoor
open Go Go.RowKit Go.Sort Go.Lib Go.Rx
set_option linter.unusedVariables false
theorem var_below {P : Program} {w w' : World} {n : String} {x : Array Value} (hb : Below w.heap.size w w') (h : w.var? P n = some x) : w'.var? P n = some x := by
  unfold World.var? at *
  cases hg : P.globalNamed n with
  | none => simp [hg] at h
  | some g =>
    simp only [hg, Option.bind_some] at h ⊢
    have hlt : g < w.heap.size := by
      rcases Nat.lt_or_ge g w.heap.size with h' | h'
      · exact h'
      · rw [Array.getElem?_eq_none h'] at h; simp at h
    rw [hb.block g hlt]
    exact h
structure LaidT (w : World) : Prop where
  tab : Lib.TabIs Go.Proofs.Tryd.prog w "internal/strconv.uint64pow10" .u64 Lib.pow10Tab
theorem LaidT.below {w w' : World} (h : LaidT w) (hb : Below w.heap.size w w') : LaidT w' := ⟨var_below hb h.tab⟩
structure Laid (w : World) : Prop where
  tab : Lib.TabIs Go.Proofs.Tryd.prog w "internal/strconv.uint64pow10" .u64 Lib.pow10Tab
  syn : ∃ tp p, w.var? Go.Proofs.Tryd.prog "strconv.ErrSyntax" = some #[.iface tp p]
  rng : ∃ tp p, w.var? Go.Proofs.Tryd.prog "strconv.ErrRange" = some #[.iface tp p]
theorem Laid.below {w w' : World} (h : Laid w) (hb : Below w.heap.size w w') : Laid w' :=
  ⟨var_below hb h.tab, h.syn.imp fun _ h => h.imp fun _ h => var_below hb h, h.rng.imp fun _ h => h.imp fun _ h => var_below hb h⟩
theorem upd_of_below {w w' : World} (h : Below w.heap.size w w') : Upd w w' [] [] :=
  ⟨h.os, h.tape, h.output, h.size, fun i hi _ => h.block i hi, Own.nil _, fun _ hc => by cases hc⟩
theorem parse_ok (s : ByteArray) (hlim : s.size ≤ 281474976710656) (u : Nat) (h : parseUintB 64 s.data.toList = .ok u) (w : World) :
    Calls Go.Proofs.Tryd.prog 53 #[.string s, .int .i64 10, .int .i64 64] w fun e w' => e = .returned (.tuple #[.int .u64 u, .nilIface]) ∧ Below w.heap.size w w' := by
  refine (Tryd.strconv_ParseUint_10_at64_ok s (by omega) u h w).mono ?_
  rintro e w' ⟨rfl, rfl | rfl⟩
  · exact ⟨rfl, Below.refl _ _⟩
  · exact ⟨rfl, Lib.bytesWorld_below _ _ _⟩
theorem bytes_ext {s : ByteArray} {l : List UInt8} : (⟨l.toArray⟩ : ByteArray) = s ↔ l = s.data.toList := by
  constructor
  · rintro rfl; simp
  · rintro rfl; simp
instance {w : World} : Coe (Laid w) (LaidT w) := ⟨fun h => ⟨h.tab⟩⟩
theorem spec_of_below {f : FuncId} {args : Array Value} {w : World} {v : Value} (he : Go.Rx.Enters Go.Proofs.Tryd.prog f) (h : Calls Go.Proofs.Tryd.prog f args w fun e w' => e = .returned v ∧ Below w.heap.size w w') : Go.Rx.Spec Go.Proofs.Tryd.prog f args w [] (fun u _ => u = v) := by
  refine ⟨he, h.mono ?_⟩
  rintro e w' ⟨rfl, hb⟩
  exact ⟨_, [], rfl, upd_of_below hb, rfl⟩
theorem Laid.t {w : World} (h : Laid w) : LaidT w := ⟨h.tab⟩
theorem Laid.upd {w w' : World} {H : List Chunk} (h : Laid w) (hu : Upd w w' [] H) : Laid w' := h.below hu.below'
theorem LaidT.upd {w w' : World} {H : List Chunk} (h : LaidT w) (hu : Upd w w' [] H) : LaidT w' := h.below hu.below'
end Go.Proofs.YtonoamdonmbkpaaDoor
/- The law bourselaw03.TextValues gives true. -/
namespace Go.Rx
open Go Go.RowKit Go.Proofs.YtonoamdonmbkpaaDoor
set_option linter.unusedVariables false
def fiveT : List Tg := [⟨1, ⟨#[53]⟩⟩]
end Go.Rx
/- From the reading of a call's arguments to tags; from what a row lists to what the walks want. -/
namespace Go.Rx
open Go Go.RowKit
set_option linter.unusedVariables false
section
variable {H : Type} {enc : TypeId × Value → H} {P : Program} {w : World} {base : Nat} {held : Bool}
end
def Tg.dec : List Value → Tg
  | [.int .i64 n, .string s] => ⟨n, s⟩
  | _ => default
end Go.Rx
namespace Go.Proofs.YtonoamdonmbkpaaDoor
open Go Go.RowKit Go.Rx Go.ChangeAt
set_option linter.unusedVariables false
theorem gSyn : Go.Proofs.Tryd.prog.globalNamed "strconv.ErrSyntax" = some 2 := by kernel_rfl
theorem gRng : Go.Proofs.Tryd.prog.globalNamed "strconv.ErrRange" = some 3 := by kernel_rfl
theorem gTab : Go.Proofs.Tryd.prog.globalNamed "internal/strconv.uint64pow10" = some 1 := by kernel_rfl
theorem gSynT : (Go.Proofs.Tryd.prog.globals[2]?).map (·.type) = some 71 := by kernel_rfl
theorem gRngT : (Go.Proofs.Tryd.prog.globals[3]?).map (·.type) = some 71 := by kernel_rfl
theorem gTabT : (Go.Proofs.Tryd.prog.globals[1]?).map (·.type) = some 103 := by kernel_rfl
theorem cells146 : Go.Proofs.Tryd.prog.cellsOf 114 = 1 := by kernel_rfl
theorem cells9 : Go.Proofs.Tryd.prog.cellsOf 9 = 1 := by kernel_rfl
theorem cells25 : Go.Proofs.Tryd.prog.cellsOf 23 = 1 := by kernel_rfl
theorem cells135 : Go.Proofs.Tryd.prog.cellsOf 103 = 20 := by kernel_rfl
theorem starErr : "*" ++ "errors.errorString" = "*errors.errorString" := by decide
theorem rowErr (u : TypeId) (h : Go.Proofs.Tryd.prog.typeName? 3 u = some "*errors.errorString") : u = 112 :=
  typeName_ptr_named (nm := "errors.errorString") (by rw [starErr]; kernel_rfl) (by kernel_rfl) (by decide) u (by rw [starErr]; exact h)
def theLaid : List (String × DataW Unit) := [("math/bits.deBruijn32tab", Rows.laid_math_bits_deBruijn32tab), ("math/bits.deBruijn64tab", Rows.laid_math_bits_deBruijn64tab), ("internal/strconv.uint64pow10", Rows.laid_internal_strconv_uint64pow10), ("strconv.ErrRange", Rows.laid_strconv_ErrRange), ("strconv.ErrSyntax", Rows.laid_strconv_ErrSyntax)]
theorem laid_of_met {W : World} (h : laidMet Go.Proofs.Tryd.prog theLaid W) : Laid W := by
  have h3 := h.tail.tail
  have hT : Lib.TabIs Go.Proofs.Tryd.prog W "internal/strconv.uint64pow10" .u64 Lib.pow10Tab := Lib.tabIs_of_head (zs := Lib.pow10Tab) gTab gTabT Go.Proofs.Tryd.underlying103 Go.Proofs.Tryd.underlying23 cells25 cells135 h3
  obtain ⟨a0, s0, hv0, -, -, -⟩ := laid_sentinel h3.tail gRng gRngT Go.Proofs.Tryd.underlying71 rowErr Go.Proofs.Tryd.underlying112 Go.Proofs.Tryd.underlying114 rfl rfl Go.Proofs.Tryd.underlying9 cells146 cells9
  obtain ⟨a1, s1, hv1, -, -, -⟩ := laid_sentinel h3.tail.tail gSyn gSynT Go.Proofs.Tryd.underlying71 rowErr Go.Proofs.Tryd.underlying112 Go.Proofs.Tryd.underlying114 rfl rfl Go.Proofs.Tryd.underlying9 cells146 cells9
  exact ⟨hT, ⟨_, _, hv1⟩, ⟨_, _, hv0⟩⟩
theorem met_plain {W : World} (h : laidMetH Go.Proofs.Tryd.prog theLaid W) : laidMet Go.Proofs.Tryd.prog theLaid W := h
end Go.Proofs.YtonoamdonmbkpaaDoor
namespace Go.Proofs.YtonoamdonmbkpaaDoor
open Go Go.RowKit Go.Rx Go.ChangeAt
theorem Tryd.own : ownKnob Go.Proofs.Tryd.prog.godebug = none := by kernel_rfl
theorem Tryd.laidOut : laidOutB Go.Proofs.Tryd.prog = true := by kernel_rfl
def tabCells : DataW Unit → Array Value
  | .agg l => (l.map fun
    | .lit (.int k n) => Value.int k n
    | _ => .nilIface).toArray
  | _ => #[]
def synS : ByteArray := { data := #[105, 110, 118, 97, 108, 105, 100, 32, 115, 121, 110, 116, 97, 120] }
def rngS : ByteArray := { data := #[118, 97, 108, 117, 101, 32, 111, 117, 116, 32, 111, 102, 32, 114, 97, 110, 103, 101] }
noncomputable def low : Nat := (World.holding Go.Proofs.Tryd.prog default ⟨#[], #[], []⟩).heap.size
def setC (cs : Array Value) : Obj → Obj
  | .cells _ t frozen => .cells cs t frozen
  | o => o
noncomputable def laidWorld (os : Os) : World :=
  let w0 := World.holding Go.Proofs.Tryd.prog os ⟨#[.cells #[.string synS] 114, .cells #[.string rngS] 114], #[], []⟩
  { w0 with heap := ((((w0.heap.modify 2 (setC #[.iface 112 (.pointer (some ⟨low, 0, none⟩))])).modify 3 (setC #[.iface 112 (.pointer (some ⟨low + 1, 0, none⟩))])).modify 1 (setC (tabCells Rows.laid_internal_strconv_uint64pow10))).modify 4 (setC (tabCells Rows.laid_math_bits_deBruijn32tab))).modify 5 (setC (tabCells Rows.laid_math_bits_deBruijn64tab)) }
theorem laidWorld_met (os : Os) (args : Array Value) : laidMetH Go.Proofs.Tryd.prog theLaid ((laidWorld os).forCall (fun _ _ => 0) ⟨#[], args, []⟩).memory :=
  show laidMet Go.Proofs.Tryd.prog theLaid _ from laidMet_of_run' 8 (by kernel_rfl) (by kernel_rfl)
end Go.Proofs.YtonoamdonmbkpaaDoor
/- The shelf's contracts at this program (written by the kit's tools lay-shelf and lay-plain; picked by shelf2.py). -/
namespace Go.Proofs
open Go.Shelf
def Tryd.lays156_ren : Go.Shelf.Ren := ⟨fun | 156 => 15 | 165 => 31 | 166 => 32 | 169 => 33 | 240 => 47 | 241 => 48 | 276 => 56 | 277 => 57 | n => n, fun | 31 => 47 | 9 => 9 | 3 => 3 | 4 => 4 | 0 => 0 | 20 => 20 | 72 => 68 | 76 => 72 | 70 => 65 | 37 => 66 | 75 => 71 | 127 => 79 | 164 => 85 | 5 => 5 | 80 => 74 | n => n, fun | n => n⟩
theorem Tryd.lays156 : Go.Proofs.Lays.n156 Tryd.prog Tryd.lays156_ren := {
  mixed := by kernel_rfl
  f156 := Tryd.func15.trans (congrArg some (by kernel_rfl))
  f165 := Tryd.func31.trans (congrArg some (by kernel_rfl))
  f166 := Tryd.func32.trans (congrArg some (by kernel_rfl))
  f169 := Tryd.func33.trans (congrArg some (by kernel_rfl))
  f240 := Tryd.func47.trans (congrArg some (by kernel_rfl))
  f241 := Tryd.func48.trans (congrArg some (by kernel_rfl))
  f276 := Tryd.func56.trans (congrArg some (by kernel_rfl))
  f277 := Tryd.func57.trans (congrArg some (by kernel_rfl))
  t0 := Tryd.underlying0
  a0 := Tryd.isAgg0
  z0 := Tryd.sizeOf0
  v0 := Tryd.zeroValue0
  t3 := Tryd.underlying3
  a3 := Tryd.isAgg3
  z3 := Tryd.sizeOf3
  v3 := Tryd.zeroValue3
  t4 := Tryd.underlying4
  a4 := Tryd.isAgg4
  z4 := Tryd.sizeOf4
  v4 := Tryd.zeroValue4
  t9 := Tryd.underlying9
  a9 := Tryd.isAgg9
  z9 := Tryd.sizeOf9
  v9 := Tryd.zeroValue9
  t20 := Tryd.underlying20
  a20 := Tryd.isAgg20
  z20 := Tryd.sizeOf20
  v20 := Tryd.zeroValue20
  t31 := Tryd.underlying47
  a31 := Tryd.isAgg47
  z31 := Tryd.sizeOf47
  v31 := Tryd.zeroValue47
  t37 := Tryd.underlying66
  a37 := Tryd.isAgg66
  z37 := Tryd.sizeOf66
  v37 := Tryd.zeroValue66
  t70 := Tryd.underlying65
  a70 := Tryd.isAgg65
  z70 := Tryd.sizeOf65
  v70 := Tryd.zeroValue65
  t72 := Tryd.underlying68
  a72 := Tryd.isAgg68
  z72 := Tryd.sizeOf68
  v72 := Tryd.zeroValue68
  t75 := Tryd.underlying71
  a75 := Tryd.isAgg71
  z75 := Tryd.sizeOf71
  v75 := Tryd.zeroValue71
  t76 := Tryd.underlying72
  a76 := Tryd.isAgg72
  z76 := Tryd.sizeOf72
  v76 := Tryd.zeroValue72
  t127 := Tryd.underlying79
  a127 := Tryd.isAgg79
  z127 := Tryd.sizeOf79
  v127 := Tryd.zeroValue79
  t164 := Tryd.underlying85
  a164 := Tryd.isAgg85
  z164 := Tryd.sizeOf85
  v164 := Tryd.zeroValue85 }
theorem Tryd.Builder_Extra_156 : Builder.Extra Tryd.prog Tryd.lays156_ren := {
  sizeBuilder := by kernel_rfl
  liesBuilder := by kernel_rfl
  t5 := Tryd.underlying5
  a5 := Tryd.isAgg5
  z5 := Tryd.sizeOf5
  v5 := Tryd.zeroValue5
  infoByte := by kernel_rfl
  cellsByte := by kernel_rfl
  sizeByte := by kernel_rfl
  neB5 := by decide }
def Tryd.lays219_ren : Go.Shelf.Ren := ⟨fun | 219 => 34 | 217 => 49 | 225 => 50 | 224 => 51 | 267 => 52 | 266 => 58 | 314 => 59 | n => n, fun | 9 => 9 | 3 => 3 | 4 => 4 | 5 => 5 | 46 => 82 | 146 => 88 | 51 => 22 | n => n, fun | 1 => 0 | n => n⟩
theorem Tryd.lays219 : Go.Proofs.Lays.n219 Tryd.prog Tryd.lays219_ren := {
  mixed := by kernel_rfl
  f217 := Tryd.func49.trans (congrArg some (by kernel_rfl))
  f219 := Tryd.func34.trans (congrArg some (by kernel_rfl))
  f224 := Tryd.func51.trans (congrArg some (by kernel_rfl))
  f225 := Tryd.func50.trans (congrArg some (by kernel_rfl))
  f266 := Tryd.func58.trans (congrArg some (by kernel_rfl))
  f267 := Tryd.func52.trans (congrArg some (by kernel_rfl))
  f314 := Tryd.func59.trans (congrArg some (by kernel_rfl))
  t3 := Tryd.underlying3
  a3 := Tryd.isAgg3
  z3 := Tryd.sizeOf3
  v3 := Tryd.zeroValue3
  t4 := Tryd.underlying4
  a4 := Tryd.isAgg4
  z4 := Tryd.sizeOf4
  v4 := Tryd.zeroValue4
  t5 := Tryd.underlying5
  a5 := Tryd.isAgg5
  z5 := Tryd.sizeOf5
  v5 := Tryd.zeroValue5
  t9 := Tryd.underlying9
  a9 := Tryd.isAgg9
  z9 := Tryd.sizeOf9
  v9 := Tryd.zeroValue9
  t46 := Tryd.underlying82
  a46 := Tryd.isAgg82
  z46 := Tryd.sizeOf82
  v46 := Tryd.zeroValue82
  t51 := Tryd.underlying22
  a51 := Tryd.isAgg22
  z51 := Tryd.sizeOf22
  v51 := Tryd.zeroValue22
  t146 := Tryd.underlying88
  a146 := Tryd.isAgg88
  z146 := Tryd.sizeOf88
  v146 := Tryd.zeroValue88
  g1 := by kernel_rfl }
open Go.RowKit Go.Lib in
theorem Tryd.stringslite_Index_one (s : ByteArray) (c : UInt8) (w : World) :
    Calls Tryd.prog 34 #[.string s, .string ⟨#[c]⟩] w fun e w' => e = .returned (.int .i64 (Lib.indexByte s.data.toList c)) ∧ w' = w := Any.stringslite_Index_one Tryd.lays219 s c w
end Go.Proofs
/- The law bourselaw03.TextDecimals gives true. -/
namespace Go.Rx
open Go Go.RowKit Go.Lib Go.Proofs.YtonoamdonmbkpaaDoor
set_option linter.unusedVariables false
def decS (n : Nat) : ByteArray := ⟨(decDigits n).toArray⟩
theorem decS_list (n : Nat) : (decS n).data.toList = decDigits n := by simp [decS]
theorem numOf_some {s : ByteArray} {k : Nat} (h : numOf s = some k) : s = decS k ∧ k ≤ 18446744073709551615 := by
  have e64 : (2 : Nat) ^ 64 - 1 = 18446744073709551615 := by decide
  unfold numOf at h
  split at h
  · rename_i u hu
    split at h
    · rename_i hd
      cases h
      refine ⟨?_, ?_⟩
      · unfold decS
        rw [hd]
      · cases hq : parseUintB 64 s.data.toList with
        | ok u' =>
          rw [hq] at hu
          simp only [okOf, Option.some.injEq] at hu
          have := parseUintB_le hq
          omega
        | _ => rw [hq] at hu; cases hu
    · cases h
  · cases h
theorem decS_size (n : Nat) : (decS n).size = (decDigits n).length := by
  have : (decS n).size = (decS n).data.toList.length := by simp
  rw [this, decS_list]
theorem decS_facts {n : Nat} (h : n ≤ 18446744073709551615) : 1 ≤ (decS n).size ∧ (decS n).size ≤ 20 ∧ (1 < (decS n).size → bAt (decS n) (Int.toNat 0) ≠ 48) := by
  rw [decS_size]
  refine ⟨by rw [decDigits_length]; exact nDigits_pos n, dec_len (by omega), fun hl => ?_⟩
  have h1 : 1 ≤ n := by
    rcases Nat.eq_zero_or_pos n with h0 | h0
    · rw [h0, decDigits_one (by omega)] at hl
      simp at hl
    · exact h0
  obtain ⟨c, r, he, hc⟩ := dec_head n h1
  have hb : bAt (decS n) (Int.toNat 0) = (c.toNat : Int) := by
    unfold bAt
    rw [decS_list, he]
    rfl
  rw [hb]
  omega
end Go.Rx
/- Operators' lines: bytes and texts, a text cut at a byte, decimals. -/
namespace Go.Rx
open Go Go.RowKit Go.Lib Go.Proofs.YtonoamdonmbkpaaDoor
set_option linter.unusedVariables false
set_option linter.unusedSimpArgs false
def isBytes (l : List Int) : Prop := ∀ x ∈ l, 0 ≤ x ∧ x ≤ 255
theorem strOf_size (l : List Int) : (strOf l).size = l.length := by
  have h3 : (strOf l).size = (strOf l).data.toList.length := by simp
  rw [h3, strOf_toList, List.length_map]
theorem ba_ext {a b : ByteArray} (h : a.data.toList = b.data.toList) : a = b := by
  apply ByteArray.ext
  exact Array.ext' h
theorem strOf_mk (l : List Int) : (⟨(l.map fun n => UInt8.ofNat n.toNat).toArray⟩ : ByteArray) = strOf l := ba_ext (by rw [strOf_toList])
theorem strOf_cut (l : List Int) (i j : Nat) : (strOf l).extract i j = strOf ((l.take j).drop i) := ba_ext (by
  rw [strOf_toList, ByteArray.data_extract, Array.toList_extract, List.extract_eq_take_drop, strOf_toList, List.map_drop, List.map_take, List.drop_take])
theorem textItoa {w : World} {n : Int} (h0 : -9223372036854775808 ≤ n) (h1 : n ≤ 9223372036854775807) (hL : LaidT w) : Go.Rx.Spec Go.Proofs.Tryd.prog 38 #[.int .i64 n] w [] (fun u _ => u = .string ⟨(itoa n).toArray⟩) :=
  spec_of_below ⟨Go.Proofs.Tryd.f38, Go.Proofs.Tryd.func38, by kernel_rfl, rfl⟩ ((Go.Proofs.Tryd.strconv_Itoa n h0 h1 w hL.tab).mono (by
    rintro e w' ⟨rfl, k, os, rfl⟩
    exact ⟨rfl, grow_below w k os⟩))
def firstF (c : Int) : List Int → Nat
  | [] => 0
  | x :: r => if x = c then 0 else firstF c r + 1
theorem firstF_le (c : Int) : ∀ l : List Int, firstF c l ≤ l.length
  | [] => Nat.le_refl _
  | x :: r => by
    unfold firstF
    split
    · simp
    · have := firstF_le c r
      simp
      omega
theorem indexByte_first {c : UInt8} : ∀ {l : List Int}, isBytes l → indexByte (l.map fun n => UInt8.ofNat n.toNat) c = if firstF c.toNat l < l.length then (firstF c.toNat l : Int) else -1
  | [], _ => rfl
  | x :: r, h => by
    have hx := h x (List.mem_cons_self ..)
    have ih := indexByte_first (c := c) (l := r) (fun y hy => h y (List.mem_cons_of_mem _ hy))
    have hle := firstF_le c.toNat r
    have hc : (UInt8.ofNat x.toNat == c) = decide (x = (c.toNat : Int)) := by
      rw [Bool.eq_iff_iff, beq_iff_eq, decide_eq_true_eq]
      constructor
      · intro he
        have := congrArg UInt8.toNat he
        rw [UInt8.toNat_ofNat'] at this
        omega
      · intro he
        rw [he, Int.toNat_natCast, UInt8.ofNat_toNat]
    by_cases he : x = (c.toNat : Int)
    · have e1 : firstF c.toNat (x :: r) = 0 := if_pos he
      rw [e1, if_pos (by simp)]
      simp only [List.map_cons, indexByte, hc]
      rw [decide_eq_true he, if_pos rfl]
      rfl
    · have e1 : firstF c.toNat (x :: r) = firstF c.toNat r + 1 := if_neg he
      rw [e1]
      simp only [List.map_cons, indexByte, hc, List.length_cons]
      rw [decide_eq_false he, if_neg (by simp), ih]
      by_cases hf : firstF c.toNat r < r.length
      · have hne : ((firstF c.toNat r : Int) == -1) = false := by
          rw [beq_eq_false_iff_ne]
          omega
        have h2 : firstF c.toNat r + 1 < r.length + 1 := by omega
        simp only [if_pos hf, hne, if_pos h2, Bool.false_eq_true, if_false]
        omega
      · have h2 : ¬ firstF c.toNat r + 1 < r.length + 1 := by omega
        simp only [if_neg hf, if_neg h2]
        rfl
def cutV (c : UInt8) (F : List Int) : Value := if firstF c.toNat F < F.length then .tuple #[.string (strOf (F.take (firstF c.toNat F))), .string (strOf (F.drop (firstF c.toNat F + 1))), .bool true] else .tuple #[.string (strOf F), .string ⟨#[]⟩, .bool false]
theorem indexSpec {w : World} {c : UInt8} {F : List Int} (hB : isBytes F) : Spec Go.Proofs.Tryd.prog 34 #[.string (strOf F), .string ⟨#[c]⟩] w [] (fun u _ => u = .int .i64 (if firstF c.toNat F < F.length then (firstF c.toNat F : Int) else -1)) := by
  refine spec_of_below ⟨Go.Proofs.Tryd.f34, Go.Proofs.Tryd.func34, by kernel_rfl, rfl⟩ ((Go.Proofs.Tryd.stringslite_Index_one (strOf F) c w).mono ?_)
  rintro e w' ⟨rfl, rfl⟩
  refine ⟨?_, Below.refl _ _⟩
  rw [strOf_toList, indexByte_first hB]
set_option maxHeartbeats 1000000 in
set_option maxRecDepth 100000 in
theorem cutHit {w : World} {c : UInt8} {F : List Int} (hB : isBytes F) (hl : F.length ≤ 281474976710656) (h : firstF c.toNat F < F.length) : Spec Go.Proofs.Tryd.prog 17 #[.string (strOf F), .string ⟨#[c]⟩] w [] (fun u _ => u = cutV c F) := by
  have hI := fun w => indexSpec (w := w) (c := c) hB
  rw [if_pos h] at hI
  have hss := strOf_size F
  generalize hk : firstF c.toNat F = k at hI h
  refine Spec.enter (fn := Go.Proofs.Tryd.f17) (n := 23) [.string (strOf F), .string ⟨#[c]⟩] Go.Proofs.Tryd.func17 (by kernel_rfl) rfl Go.Proofs.Tryd.ntmps17 Go.Proofs.Tryd.results17 rfl (Own.nil _) ?_
  refine JC.rs ?_
  refine Seq.p rfl Ev.assign ?_
  refine Seq.p rfl Ev.assign ?_
  refine Seq.p rfl Ev.assign ?_
  refine Seq.nil ?_
  refine JC.seq ?_
  refine JC.rs ?_
  refine Seq.p rfl Ev.move ?_
  refine Seq.p rfl Ev.move ?_
  refine Seq.callP rfl (fun w hw => hI w) ?_
  refine Seq.p rfl Ev.assign ?_
  refine Seq.nil ?_
  refine JC.rs ?_
  refine Seq.p rfl Ev.move ?_
  refine Seq.p rfl Ev.ge ?_
  refine Seq.nil ?_
  first | refine JC.c (ht := fun c12 => ?_) (hf := fun c12 => ?_) | refine JC.cb (ht := fun c12 => ?_) (hf := fun c12 => ?_)
  · -- then_t12
    refine JC.qs mixed (by kernel_rfl) ?_
    refine Qui.p rfl Ev.move ?_
    refine Qui.p rfl Ev.move ?_
    refine Qui.p rfl (Ev.cutStr (s := strOf F) (l := 0) (h := k) st.string (hlo := rfl) (hhi := ⟨_, (by repeat (first | exact Look.here | apply Look.there (hne := rfl) | exact Look.const | apply Look.mix rfl | exact Look.arg0 | apply Look.args | exact Look.func))⟩)) ?_
    refine Qui.p rfl Ev.move ?_
    refine Qui.p rfl Ev.move ?_
    refine Qui.p rfl Ev.move ?_
    refine Qui.p rfl (Ev.lenStr st.string) ?_
    refine Qui.p rfl (Ev.addN (m := k) (c := 1)) ?_
    refine Qui.p rfl (Ev.cutStr (s := strOf F) (l := k + 1) (h := (strOf F).size) st.string (hlo := ⟨_, (by repeat (first | exact Look.here | apply Look.there (hne := rfl) | exact Look.const | apply Look.mix rfl | exact Look.arg0 | apply Look.args | exact Look.func))⟩) (hhi := rfl)) ?_
    refine Qui.p rfl Ev.assign ?_
    refine Qui.p rfl Ev.assign ?_
    refine Qui.p rfl Ev.assign ?_
    refine Qui.nil ?_
    refine JC.ret ?_
    show retQ _ _ _ _ _ _ _ _
    refine ret3 (hp := Part.nil _) (hpost := ?_)
    unfold cutV
    rw [hk, if_pos h, strOf_cut, strOf_cut, hss, List.take_length, List.drop_zero]
    try rfl
  · -- else_t12
    exact absurd (by omega) c12
set_option maxHeartbeats 1000000 in
set_option maxRecDepth 100000 in
theorem cutMiss {w : World} {c : UInt8} {F : List Int} (hB : isBytes F) (h : ¬ firstF c.toNat F < F.length) : Spec Go.Proofs.Tryd.prog 17 #[.string (strOf F), .string ⟨#[c]⟩] w [] (fun u _ => u = cutV c F) := by
  have hI := fun w => indexSpec (w := w) (c := c) hB
  rw [if_neg h] at hI
  refine Spec.enter (fn := Go.Proofs.Tryd.f17) (n := 23) [.string (strOf F), .string ⟨#[c]⟩] Go.Proofs.Tryd.func17 (by kernel_rfl) rfl Go.Proofs.Tryd.ntmps17 Go.Proofs.Tryd.results17 rfl (Own.nil _) ?_
  refine JC.rs ?_
  refine Seq.p rfl Ev.assign ?_
  refine Seq.p rfl Ev.assign ?_
  refine Seq.p rfl Ev.assign ?_
  refine Seq.nil ?_
  refine JC.seq ?_
  refine JC.rs ?_
  refine Seq.p rfl Ev.move ?_
  refine Seq.p rfl Ev.move ?_
  refine Seq.callP rfl (fun w hw => hI w) ?_
  refine Seq.p rfl Ev.assign ?_
  refine Seq.nil ?_
  refine JC.rs ?_
  refine Seq.p rfl Ev.move ?_
  refine Seq.p rfl Ev.ge ?_
  refine Seq.nil ?_
  first | refine JC.c (ht := fun c12 => ?_) (hf := fun c12 => ?_) | refine JC.cb (ht := fun c12 => ?_) (hf := fun c12 => ?_)
  · -- then_t12
    exact absurd c12 (by omega)
  · -- else_t12
    refine JC.skip ?_
    refine JC.rs ?_
    refine Seq.p rfl Ev.move ?_
    refine Seq.p rfl Ev.assign ?_
    refine Seq.p rfl Ev.assign ?_
    refine Seq.p rfl Ev.assign ?_
    refine Seq.nil ?_
    refine JC.ret ?_
    show retQ _ _ _ _ _ _ _ _
    refine ret3 (hp := Part.nil _) (hpost := ?_)
    unfold cutV
    rw [if_neg h]
    try rfl
set_option maxHeartbeats 1000000 in
set_option maxRecDepth 100000 in
theorem textCut {w : World} {c : UInt8} {F : List Int} (hB : isBytes F) (hl : F.length ≤ 281474976710656) : Spec Go.Proofs.Tryd.prog 10 #[.string (strOf F), .string ⟨#[c]⟩] w [] (fun u _ => u = cutV c F) := by
  have hC : ∀ w, Spec Go.Proofs.Tryd.prog 17 #[.string (strOf F), .string ⟨#[c]⟩] w [] (fun u _ => u = cutV c F) := fun w => by
    by_cases h : firstF c.toNat F < F.length
    · exact cutHit hB hl h
    · exact cutMiss hB h
  have hV : ∃ a b t, cutV c F = .tuple #[.string a, .string b, .bool t] := by
    unfold cutV
    split
    · exact ⟨_, _, _, rfl⟩
    · exact ⟨_, _, _, rfl⟩
  obtain ⟨a, b, t, hV⟩ := hV
  rw [hV] at hC ⊢
  refine Spec.enter (fn := Go.Proofs.Tryd.f10) (n := 13) [.string (strOf F), .string ⟨#[c]⟩] Go.Proofs.Tryd.func10 (by kernel_rfl) rfl Go.Proofs.Tryd.ntmps10 Go.Proofs.Tryd.results10 rfl (Own.nil _) ?_
  refine JC.rs ?_
  refine Seq.p rfl Ev.assign ?_
  refine Seq.p rfl Ev.assign ?_
  refine Seq.p rfl Ev.assign ?_
  refine Seq.nil ?_
  refine JC.rs ?_
  refine Seq.p rfl Ev.move ?_
  refine Seq.p rfl Ev.move ?_
  refine Seq.callP rfl (fun w hw => hC w) ?_
  refine Seq.p rfl Ev.extract ?_
  refine Seq.p rfl Ev.extract ?_
  refine Seq.p rfl Ev.extract ?_
  refine Seq.p rfl Ev.assign ?_
  refine Seq.p rfl Ev.assign ?_
  refine Seq.p rfl Ev.assign ?_
  refine Seq.nil ?_
  refine JC.ret ?_
  show retQ _ _ _ _ _ _ _ _
  refine ret3 (hp := Part.nil _) (hpost := ?_)
  rfl
def ErrV (er : Value) (b : Bool) : Prop := (b = false ∧ er = .nilIface) ∨ (b = true ∧ ∃ t p, er = .iface t p)
end Go.Rx
/- Operators' lines, plain: the kinds of words, what a line says, what is printed. -/
namespace Go.Rx
open Go Go.RowKit Go.Lib
set_option linter.unusedVariables false
set_option linter.unusedSimpArgs false
structure Opn where
  word : ByteArray
  name : ByteArray
  member : Int
  price : Int
  count : Int
  ord : Int
  opn : Int
  lcount : Int
  pos : Int
  worth : Int
  has : Bool
deriving DecidableEq, Inhabited
def Opn.enc (o : Opn) : List Value := [.string o.word, .string o.name, .int .u32 o.member, .int .i64 o.price, .int .i64 o.count, .int .u64 o.ord, .int .u64 o.opn, .int .i64 o.lcount, .int .u64 o.pos, .int .u64 o.worth, .bool o.has]
theorem Opn.eqL_enc (x y : Opn) : eqL x.enc y.enc = decide (x = y) := by
  cases x; cases y
  simp [Opn.enc, eqL, eqV, Bool.decide_and]
def op0 : Opn := ⟨⟨#[]⟩, ⟨#[]⟩, 0, 0, 0, 0, 0, 0, 0, 0, false⟩
inductive Fk where
  | name | price | member | count | ord | opn | lcount | pos | worth
deriving DecidableEq, Inhabited
def nameB (w : List Int) : Bool := (w.all fun c => decide (65 ≤ c ∧ c ≤ 90)) && decide (1 ≤ w.length ∧ w.length ≤ 8)
def within (w : List Int) (most : Nat) : Option Nat := (numOf (strOf w)).bind fun n => if n ≤ most then some n else none
def putF (k : Fk) (o : Opn) (w : List Int) : Option Opn :=
  match k with
  | .name => if nameB w = true then some { o with name := strOf w } else none
  | .price => (within w 262143).map fun (n : Nat) => { o with price := (n : Int) }
  | .member => (within w 4294967295).bind fun (n : Nat) => if 1 ≤ n then some { o with member := (n : Int) } else none
  | .count => (within w 999999999).map fun (n : Nat) => { o with count := (n : Int) }
  | .lcount => (within w 999999999).map fun (n : Nat) => { o with lcount := (n : Int) }
  | .ord => (within w 18446744073709551615).map fun (n : Nat) => { o with ord := (n : Int), has := true }
  | .opn => (within w 18446744073709551615).map fun (n : Nat) => { o with opn := (n : Int), has := true }
  | .pos => (within w 18446744073709551615).map fun (n : Nat) => { o with pos := (n : Int), has := true }
  | .worth => (within w 18446744073709551615).map fun (n : Nat) => { o with worth := (n : Int), has := true }
def writeF (k : Fk) (o : Opn) : ByteArray :=
  match k with
  | .name => o.name
  | .price => ⟨(itoa o.price).toArray⟩
  | .member => decS o.member.toNat
  | .count => ⟨(itoa o.count).toArray⟩
  | .lcount => ⟨(itoa o.lcount).toArray⟩
  | .ord => decS o.ord.toNat
  | .opn => decS o.opn.toNat
  | .pos => decS o.pos.toNat
  | .worth => decS o.worth.toNat
def limK : List Fk := [.member, .ord, .opn, .lcount, .pos, .worth]
def shapeF (w : ByteArray) : Option (List Fk) :=
  if w = ⟨#[104, 97, 108, 116]⟩ then some [.name]
  else if w = ⟨#[97, 117, 99, 116, 105, 111, 110]⟩ then some [.name]
  else if w = ⟨#[111, 112, 101, 110]⟩ then some [.name]
  else if w = ⟨#[99, 108, 111, 115, 101]⟩ then some [.name]
  else if w = ⟨#[114, 101, 112, 111, 114, 116]⟩ then some [.name]
  else if w = ⟨#[114, 101, 115, 117, 109, 101]⟩ then some [.name, .price]
  else if w = ⟨#[107, 105, 108, 108]⟩ then some [.member]
  else if w = ⟨#[114, 101, 118, 105, 118, 101]⟩ then some [.member]
  else if w = ⟨#[100, 101, 112, 116, 104]⟩ then some [.name, .count]
  else if w = ⟨#[108, 105, 109, 105, 116, 115]⟩ then some limK
  else if w = ⟨#[109, 101, 109, 98, 101, 114, 115]⟩ then some []
  else if w = ⟨#[115, 101, 116, 116, 108, 101]⟩ then some []
  else none
def parseK : List Fk → Opn → List Int → Nat → Opn × Int × Int
  | [], o, [], _ => (o, 0, 0)
  | [], _, _ :: _, p => (op0, (p : Int) + 1, 270)
  | _ :: _, _, [], p => (op0, p, 270)
  | k :: ks, o, _ :: R, p => match putF k o (R.take (firstF 32 R)) with
    | some o' => parseK ks o' (R.drop (firstF 32 R)) (p + 1 + firstF 32 R)
    | none => (op0, (p : Int) + 1, 270)
def parseF (F : List Int) : Opn × Int × Int :=
  if 2048 < F.length then (op0, 2048, 2)
  else match shapeF (strOf (F.take (firstF 32 F))) with
    | some ks => parseK ks { op0 with word := strOf (F.take (firstF 32 F)) } (F.drop (firstF 32 F)) (firstF 32 F)
    | none => (op0, 0, 270)
def tailL (o : Opn) (ks : List Fk) : List Int := ks.flatMap fun k => 32 :: bytesOf (writeF k o)
def wordsL (o : Opn) (ks : List Fk) : List Int := bytesOf o.word ++ tailL o ks
def printF (o : Opn) : ByteArray × Int :=
  match shapeF o.word with
  | some ks => if parseF (wordsL o ks) = (o, 0, 0) then (strOf (wordsL o ks), 0) else (⟨#[]⟩, 270)
  | none => (⟨#[]⟩, 270)
/-! what a shape is -/
theorem shape_cases {w : ByteArray} {ks : List Fk} (h : shapeF w = some ks) : ((ks = [.name] ∨ ks = [.name, .price] ∨ ks = [.member] ∨ ks = [.name, .count] ∨ ks = []) ∧ w ≠ ⟨#[108, 105, 109, 105, 116, 115]⟩ ∨ ks = limK ∧ w = ⟨#[108, 105, 109, 105, 116, 115]⟩) ∧ w.size ≤ 7 := by
  unfold shapeF at h
  by_cases h0 : w = ⟨#[104, 97, 108, 116]⟩
  · rw [if_pos h0] at h
    obtain rfl := Option.some.inj h
    subst h0
    exact ⟨.inl ⟨by simp, by decide⟩, by decide⟩
  rw [if_neg h0] at h
  by_cases h1 : w = ⟨#[97, 117, 99, 116, 105, 111, 110]⟩
  · rw [if_pos h1] at h
    obtain rfl := Option.some.inj h
    subst h1
    exact ⟨.inl ⟨by simp, by decide⟩, by decide⟩
  rw [if_neg h1] at h
  by_cases h2 : w = ⟨#[111, 112, 101, 110]⟩
  · rw [if_pos h2] at h
    obtain rfl := Option.some.inj h
    subst h2
    exact ⟨.inl ⟨by simp, by decide⟩, by decide⟩
  rw [if_neg h2] at h
  by_cases h3 : w = ⟨#[99, 108, 111, 115, 101]⟩
  · rw [if_pos h3] at h
    obtain rfl := Option.some.inj h
    subst h3
    exact ⟨.inl ⟨by simp, by decide⟩, by decide⟩
  rw [if_neg h3] at h
  by_cases h4 : w = ⟨#[114, 101, 112, 111, 114, 116]⟩
  · rw [if_pos h4] at h
    obtain rfl := Option.some.inj h
    subst h4
    exact ⟨.inl ⟨by simp, by decide⟩, by decide⟩
  rw [if_neg h4] at h
  by_cases h5 : w = ⟨#[114, 101, 115, 117, 109, 101]⟩
  · rw [if_pos h5] at h
    obtain rfl := Option.some.inj h
    subst h5
    exact ⟨.inl ⟨by simp, by decide⟩, by decide⟩
  rw [if_neg h5] at h
  by_cases h6 : w = ⟨#[107, 105, 108, 108]⟩
  · rw [if_pos h6] at h
    obtain rfl := Option.some.inj h
    subst h6
    exact ⟨.inl ⟨by simp, by decide⟩, by decide⟩
  rw [if_neg h6] at h
  by_cases h7 : w = ⟨#[114, 101, 118, 105, 118, 101]⟩
  · rw [if_pos h7] at h
    obtain rfl := Option.some.inj h
    subst h7
    exact ⟨.inl ⟨by simp, by decide⟩, by decide⟩
  rw [if_neg h7] at h
  by_cases h8 : w = ⟨#[100, 101, 112, 116, 104]⟩
  · rw [if_pos h8] at h
    obtain rfl := Option.some.inj h
    subst h8
    exact ⟨.inl ⟨by simp, by decide⟩, by decide⟩
  rw [if_neg h8] at h
  by_cases h9 : w = ⟨#[108, 105, 109, 105, 116, 115]⟩
  · rw [if_pos h9] at h
    obtain rfl := Option.some.inj h
    subst h9
    exact ⟨.inr ⟨rfl, rfl⟩, by decide⟩
  rw [if_neg h9] at h
  by_cases h10 : w = ⟨#[109, 101, 109, 98, 101, 114, 115]⟩
  · rw [if_pos h10] at h
    obtain rfl := Option.some.inj h
    subst h10
    exact ⟨.inl ⟨by simp, by decide⟩, by decide⟩
  rw [if_neg h10] at h
  by_cases h11 : w = ⟨#[115, 101, 116, 116, 108, 101]⟩
  · rw [if_pos h11] at h
    obtain rfl := Option.some.inj h
    subst h11
    exact ⟨.inl ⟨by simp, by decide⟩, by decide⟩
  rw [if_neg h11] at h
  cases h
theorem shape_nodup {w : ByteArray} {ks : List Fk} (h : shapeF w = some ks) : ks.Nodup := by
  rcases (shape_cases h).1 with ⟨h | h | h | h | h, _⟩ | ⟨h, _⟩ <;> (subst h; decide)
theorem shape_size {w : ByteArray} {ks : List Fk} (h : shapeF w = some ks) : w.size ≤ 7 ∧ ks.length ≤ 6 := by
  refine ⟨(shape_cases h).2, ?_⟩
  rcases (shape_cases h).1 with ⟨h | h | h | h | h, _⟩ | ⟨h, _⟩ <;> (subst h; decide)
/-! what is put stands there, all else as it was -/
theorem within_some {w : List Int} {m n : Nat} (h : within w m = some n) : numOf (strOf w) = some n ∧ n ≤ m := by
  unfold within at h
  cases hn : numOf (strOf w) with
  | none => rw [hn] at h; cases h
  | some k =>
    rw [hn] at h
    simp only [Option.bind_some] at h
    split at h
    · simp only [Option.some.injEq] at h
      subst h
      exact ⟨rfl, by assumption⟩
    · cases h
theorem itoa_nat (n : Nat) : (⟨(itoa (n : Int)).toArray⟩ : ByteArray) = decS n := by
  rw [itoa_nonneg]
  rfl
theorem put_write {k : Fk} {o o' : Opn} {w : List Int} (h : putF k o w = some o') : writeF k o' = strOf w := by
  cases k <;> simp only [putF, Option.map_eq_some_iff, Option.bind_eq_some_iff] at h
  case name =>
    split at h
    · simp only [Option.some.injEq] at h; subst h; rfl
    · cases h
  case member =>
    obtain ⟨n, h1, h2⟩ := h
    split at h2
    · simp only [Option.some.injEq] at h2; subst h2
      rw [(numOf_some (within_some h1).1).1]
      simp [writeF]
    · cases h2
  all_goals
    obtain ⟨n, h1, rfl⟩ := h
    rw [(numOf_some (within_some h1).1).1]
    simp [writeF, itoa_nat]
theorem put_word {k : Fk} {o o' : Opn} {w : List Int} (h : putF k o w = some o') : o'.word = o.word := by
  cases k <;> simp only [putF, Option.map_eq_some_iff, Option.bind_eq_some_iff] at h
  case name =>
    split at h
    · simp only [Option.some.injEq] at h; subst h; rfl
    · cases h
  case member =>
    obtain ⟨n, h1, h2⟩ := h
    split at h2
    · simp only [Option.some.injEq] at h2; subst h2; rfl
    · cases h2
  all_goals
    obtain ⟨n, h1, rfl⟩ := h
    rfl
theorem put_other {k j : Fk} {o o' : Opn} {w : List Int} (h : putF k o w = some o') (hj : j ≠ k) : writeF j o' = writeF j o := by
  cases k <;> simp only [putF, Option.map_eq_some_iff, Option.bind_eq_some_iff] at h
  case name =>
    split at h
    · simp only [Option.some.injEq] at h; subst h; cases j <;> first | rfl | exact absurd rfl hj
    · cases h
  case member =>
    obtain ⟨n, h1, h2⟩ := h
    split at h2
    · simp only [Option.some.injEq] at h2; subst h2; cases j <;> first | rfl | exact absurd rfl hj
    · cases h2
  all_goals
    obtain ⟨n, h1, rfl⟩ := h
    cases j <;> first | rfl | exact absurd rfl hj
structure Lawful (o : Opn) : Prop where
  price : 0 ≤ o.price
  count : 0 ≤ o.count
  lcount : 0 ≤ o.lcount
  name : o.name.size ≤ 8
theorem put_lawful {k : Fk} {o o' : Opn} {w : List Int} (h : putF k o w = some o') (ho : Lawful o) : Lawful o' := by
  obtain ⟨a, b, c, d⟩ := ho
  cases k <;> simp only [putF, Option.map_eq_some_iff, Option.bind_eq_some_iff] at h
  case name =>
    split at h
    · rename_i hn
      simp only [Option.some.injEq] at h; subst h
      refine ⟨a, b, c, ?_⟩
      unfold nameB at hn
      simp only [Bool.and_eq_true, decide_eq_true_eq] at hn
      show (strOf w).size ≤ 8
      rw [strOf_size]
      omega
    · cases h
  case member =>
    obtain ⟨n, h1, h2⟩ := h
    split at h2
    · simp only [Option.some.injEq] at h2; subst h2; exact ⟨a, b, c, d⟩
    · cases h2
  all_goals
    obtain ⟨n, h1, rfl⟩ := h
    exact ⟨by first | exact a | exact Int.natCast_nonneg n, by first | exact b | exact Int.natCast_nonneg n, by first | exact c | exact Int.natCast_nonneg n, d⟩
theorem put_lc {k : Fk} {o o' : Opn} {w : List Int} (h : putF k o w = some o') (hk : k ≠ .lcount) : o'.lcount = o.lcount := by
  cases k <;> simp only [putF, Option.map_eq_some_iff, Option.bind_eq_some_iff] at h
  case name =>
    split at h
    · simp only [Option.some.injEq] at h; subst h; rfl
    · cases h
  case member =>
    obtain ⟨n, h1, h2⟩ := h
    split at h2
    · simp only [Option.some.injEq] at h2; subst h2; rfl
    · cases h2
  case lcount => exact absurd rfl hk
  all_goals
    obtain ⟨n, h1, rfl⟩ := h
    rfl
theorem put_nil (k : Fk) (o : Opn) : putF k o [] = none := by
  have h : ∀ m, within [] m = none := by
    intro m
    have : numOf (strOf []) = none := by rw [← natF_eq]; rfl
    unfold within
    rw [this]
    rfl
  cases k <;> simp only [putF, h] <;> rfl
theorem first_drop (R : List Int) : R.drop (firstF 32 R) = [] ∨ ∃ r, R.drop (firstF 32 R) = 32 :: r := by
  induction R with
  | nil => left; rfl
  | cons x r ih =>
    unfold firstF
    split
    · rename_i h; right; exact ⟨r, by rw [h]; rfl⟩
    · exact ih
theorem parseK_ok : ∀ (ks : List Fk) (o : Opn) (R : List Int) (p : Nat) (x : Opn), ks.Nodup → (R = [] ∨ ∃ r, R = 32 :: r) → parseK ks o R p = (x, 0, 0) →
    x.word = o.word ∧ (∀ k, k ∉ ks → writeF k x = writeF k o) ∧ (isBytes R → R = tailL x ks) ∧ (Lawful o → Lawful x) ∧ (Fk.lcount ∉ ks → x.lcount = o.lcount)
  | [], o, [], p, x, _, _, h => by
    simp only [parseK, Prod.mk.injEq] at h
    obtain ⟨rfl, _⟩ := h
    exact ⟨rfl, fun _ _ => rfl, fun _ => rfl, id, fun _ => rfl⟩
  | [], o, y :: R, p, x, _, _, h => by simp [parseK] at h
  | k :: ks, o, [], p, x, _, _, h => by simp [parseK] at h
  | k :: ks, o, y :: R, p, x, hnd, hsep, h => by
    obtain rfl : y = 32 := by rcases hsep with h | ⟨r, h⟩ <;> cases h; rfl
    simp only [parseK] at h
    cases hp : putF k o (R.take (firstF 32 R)) with
    | none => rw [hp] at h; simp at h
    | some o' =>
      rw [hp] at h
      have hnd2 := List.nodup_cons.1 hnd
      obtain ⟨h1, h2, h3, h4, h5⟩ := parseK_ok ks o' _ _ x hnd2.2 (first_drop R) h
      refine ⟨h1.trans (put_word hp), ?_, ?_, fun hl => h4 (put_lawful hp hl), ?_⟩
      · intro j hj
        rw [List.mem_cons, not_or] at hj
        rw [h2 j hj.2, put_other hp hj.1]
      · intro hB
        have hB2 : isBytes R := fun n hn => hB n (List.mem_cons_of_mem _ hn)
        have e1 : bytesOf (writeF k x) = R.take (firstF 32 R) := by
          rw [h2 k hnd2.1, put_write hp]
          exact bytesOf_str (fun n hn => hB2 n (List.mem_of_mem_take hn))
        have e2 := h3 (fun n hn => hB2 n (List.mem_of_mem_drop hn))
        unfold tailL at e2 ⊢
        rw [List.flatMap_cons, e1, ← e2, List.cons_append, List.take_append_drop]
      · intro hj
        rw [List.mem_cons, not_or] at hj
        rw [h5 hj.2, put_lc hp (fun h => hj.1 h.symm)]
theorem line_parsed {F : List Int} {x : Opn} (hB : isBytes F) (h : parseF F = (x, 0, 0)) : ∃ ks, shapeF x.word = some ks ∧ F = wordsL x ks ∧ Lawful x ∧ (Fk.lcount ∉ ks → x.lcount = 0) := by
  unfold parseF at h
  split at h
  · simp at h
  · cases hs : shapeF (strOf (F.take (firstF 32 F))) with
    | none => rw [hs] at h; simp at h
    | some ks =>
      rw [hs] at h
      obtain ⟨h1, h2, h3, h4, h5⟩ := parseK_ok ks _ _ _ x (shape_nodup hs) (first_drop F) h
      refine ⟨ks, by rw [h1]; exact hs, ?_, h4 ⟨Int.le_refl 0, Int.le_refl 0, Int.le_refl 0, Nat.zero_le 8⟩, fun hk => (h5 hk)⟩
      unfold wordsL
      rw [h1]
      show F = bytesOf (strOf (F.take (firstF 32 F))) ++ tailL x ks
      rw [bytesOf_str (fun n hn => hB n (List.mem_of_mem_take hn)), ← h3 (fun n hn => hB n (List.mem_of_mem_drop hn)), List.take_append_drop]
theorem parse_print {F : List Int} {x : Opn} (hB : isBytes F) (h : parseF F = (x, 0, 0)) : printF x = (strOf F, 0) := by
  obtain ⟨ks, h1, h2, _⟩ := line_parsed hB h
  unfold printF
  rw [h1]
  simp only
  rw [← h2, if_pos h]
theorem wordsL_bytes (o : Opn) (ks : List Fk) : isBytes (wordsL o ks) := by
  intro n hn
  unfold wordsL tailL at hn
  rcases List.mem_append.1 hn with h | h
  · exact bytesOf_range _ n h
  · obtain ⟨k, _, h⟩ := List.mem_flatMap.1 h
    rcases List.mem_cons.1 h with rfl | h
    · decide
    · exact bytesOf_range _ n h
theorem print_parse {o : Opn} {t : ByteArray} (h : printF o = (t, 0)) : parseF (bytesOf t) = (o, 0, 0) := by
  unfold printF at h
  cases hs : shapeF o.word with
  | none => rw [hs] at h; simp at h
  | some ks =>
    rw [hs] at h
    simp only at h
    split at h
    · rename_i hp
      simp only [Prod.mk.injEq, and_true] at h
      rw [← h, bytesOf_str (wordsL_bytes o ks)]
      exact hp
    · simp at h
/-! the document's way to print -/
def writeR (k : Fk) (o : Opn) : ByteArray :=
  match k with
  | .price => decS ((o.price % 18446744073709551616).toNat)
  | .count => decS (((o.count + o.lcount) % 18446744073709551616).toNat)
  | .lcount => decS ((o.lcount % 18446744073709551616).toNat)
  | k => writeF k o
def tailR (o : Opn) (ks : List Fk) : List Int := ks.flatMap fun k => 32 :: bytesOf (writeR k o)
def wordsR (o : Opn) (ks : List Fk) : List Int := bytesOf o.word ++ tailR o ks
def refBad (o : Opn) : Prop := o.price < 0 ∨ o.count < 0 ∨ o.lcount < 0 ∨ 8 < o.name.size
instance (o : Opn) : Decidable (refBad o) := by unfold refBad; infer_instance
def printR (o : Opn) : ByteArray × Int :=
  match shapeF o.word with
  | some ks => if refBad o then (⟨#[]⟩, 270) else if parseF (wordsR o ks) = (o, 0, 0) then (strOf (wordsR o ks), 0) else (⟨#[]⟩, 270)
  | none => (⟨#[]⟩, 270)
end Go.Rx
/- Operators' lines: numbers and names. -/
namespace Go.Proofs.YtonoamdonmbkpaaDoor
open Go Go.RowKit Go.Sort Go.Lib Go.Rx
set_option linter.unusedVariables false
def numRes (s : ByteArray) : Nat := match parseUintB 64 s.data.toList with | .ok u => u | .range => 18446744073709551615 | _ => 0
theorem numRes_lt (s : ByteArray) : numRes s < 18446744073709551616 := by
  unfold numRes
  cases hq : parseUintB 64 s.data.toList with
  | ok u =>
    have h := parseUintB_le hq
    have e64 : (2 : Nat) ^ 64 - 1 = 18446744073709551615 := by decide
    show u < _
    omega
  | range => show 18446744073709551615 < _; decide
  | _ => show 0 < _; decide
theorem conParse {s : ByteArray} (hs : s.size ≤ 281474976710656) {w : World} (hL : Laid w) : Go.Rx.Spec Go.Proofs.Tryd.prog 53 #[.string s, .int .i64 10, .int .i64 64] w [] (fun u H' => ∃ er, u = .tuple #[.int .u64 ((numRes s : Nat) : Int), er] ∧ H' = [] ∧ ErrV er (okOf (parseUintB 64 s.data.toList)).isNone) := by
  obtain ⟨⟨t1, p1, h1⟩, t2, p2, h2⟩ := And.intro hL.syn hL.rng
  refine ⟨⟨Tryd.f53, Tryd.func53, by kernel_rfl, rfl⟩, ?_⟩
  unfold numRes
  cases hq : parseUintB 64 s.data.toList with
  | ok u =>
    refine (parse_ok s hs u hq w).mono ?_
    rintro e w' ⟨rfl, hb⟩
    exact ⟨_, [], rfl, upd_of_below hb, _, rfl, rfl, .inl ⟨rfl, rfl⟩⟩
  | range =>
    refine (Tryd.strconv_ParseUint_10_at64_range_var s hs hq t2 p2 w h2).mono ?_
    rintro e w' ⟨N, rfl, -, -, hb⟩
    exact ⟨_, [], rfl, upd_of_below hb, _, rfl, rfl, .inr ⟨rfl, _, _, rfl⟩⟩
  | _ =>
    refine (Tryd.strconv_ParseUint_10_at64_syntax_var s hs (hq.trans rfl) t1 p1 w h1).mono ?_
    rintro e w' ⟨N, rfl, -, -, hb⟩
    exact ⟨_, [], rfl, upd_of_below hb, _, rfl, rfl, .inr ⟨rfl, _, _, rfl⟩⟩
theorem conFormat {w : World} {u : Nat} (hu : u < 18446744073709551616) (hL : LaidT w) : Go.Rx.Spec Go.Proofs.Tryd.prog 44 #[.int .u64 (u : Int), .int .i64 10] w [] (fun v _ => v = .string (decS u)) :=
  spec_of_below ⟨Tryd.f44, Tryd.func44, by kernel_rfl, rfl⟩ (fmtUintP u hu w hL.tab)
end Go.Proofs.YtonoamdonmbkpaaDoor
namespace Go.Rx
open Go Go.RowKit Go.Lib Go.Proofs.YtonoamdonmbkpaaDoor
set_option linter.unusedVariables false
set_option linter.unusedSimpArgs false
section
variable {P : Program} {w0 : World} {Cs H : List Chunk} {e : Env} {ty tx ty' : TypeId} {x : Operand}
theorem Ev.eqErr {er : Value} {b : Bool} (h : ErrV er b) (ht : P.underlying tx = some (.interface (P.methodsAt tx))) (hx : Look e x er := by repeat (first | exact Look.here | apply Look.there (hne := rfl) | exact Look.const | apply Look.mix rfl | exact Look.arg0 | apply Look.args | exact Look.func)) : Ev P w0 Cs H e (.binOp .eql tx x (.const .nilIface) ty') ty (.bool (!b)) := by
  intro w _ d pos af g
  replace hx := hx.eq
  rcases h with ⟨rfl, rfl⟩ | ⟨rfl, t, p, rfl⟩
  · have e1 : ev e (.const .nilIface) = .nilIface := rfl
    have e2 : eqGuard .eql tx x (.const .nilIface) .nilIface .nilIface = pure () := by cases x <;> rfl
    have e3 : (binOp .eql tx .nilIface .nilIface).run P w = .ok (.bool true) w := run_eql_nil_nil (h := ht) ..
    simp [execOp, hx, e1, e2, e3]
  · have e1 : ev e (.const .nilIface) = .nilIface := rfl
    have e2 : eqGuard .eql tx x (.const .nilIface) (.iface t p) .nilIface = pure () := rfl
    have e3 : (binOp .eql tx (.iface t p) .nilIface).run P w = .ok (.bool false) w := run_eql_held_nil (h := ht) ..
    simp [execOp, hx, e1, e2, e3]
end
theorem errT : Go.Proofs.Tryd.prog.underlying 71 = some (.interface (Go.Proofs.Tryd.prog.methodsAt 71)) := by kernel_rfl
def okN (s : ByteArray) (m : Nat) : Bool := match numOf s with | some n => decide (n ≤ m) | none => false
theorem okN_eq (s : ByteArray) (m : Nat) : (((!(okOf (parseUintB 64 s.data.toList)).isNone) && decide (((numRes s : Nat) : Int) ≤ (m : Int))) && decide (decS (numRes s) = s)) = okN s m := by
  have hb : ∀ u, (decS u = s) ↔ decDigits u = s.data.toList := fun u => bytes_ext
  have key : ∀ u, parseUintB 64 s.data.toList = .ok u → (((!(okOf (parseUintB 64 s.data.toList)).isNone) && decide (((numRes s : Nat) : Int) ≤ (m : Int))) && decide (decS (numRes s) = s)) = okN s m := by
    intro u hq
    unfold okN numRes numOf
    rw [hq]
    simp only [okOf, Option.isNone_some, Bool.not_false, Bool.true_and, Int.ofNat_le]
    by_cases h : decDigits u = s.data.toList
    · rw [if_pos h, decide_eq_true ((hb u).2 h), Bool.and_true]
    · rw [if_neg h, decide_eq_false (fun h2 => h ((hb u).1 h2)), Bool.and_false]
  have none_ : okOf (parseUintB 64 s.data.toList) = none → (((!(okOf (parseUintB 64 s.data.toList)).isNone) && decide (((numRes s : Nat) : Int) ≤ (m : Int))) && decide (decS (numRes s) = s)) = okN s m := by
    intro h
    unfold okN numOf
    rw [h]
    rfl
  cases hq : parseUintB 64 s.data.toList with
  | ok u => rw [← hq]; exact key u hq
  | _ => rw [← hq]; exact none_ (by rw [hq]; rfl)
theorem okN_within {F : List Int} {m : Nat} : (okN (strOf F) m = true → within F m = some (numRes (strOf F)) ∧ numRes (strOf F) ≤ m) ∧ (okN (strOf F) m = false → within F m = none) := by
  unfold okN within
  cases hn : numOf (strOf F) with
  | none => exact ⟨fun h => (by cases h), fun _ => rfl⟩
  | some n =>
    have hr : numRes (strOf F) = n := by
      unfold numOf at hn
      unfold numRes
      cases hq : parseUintB 64 (strOf F).data.toList with
      | ok u =>
        rw [hq] at hn
        simp only [okOf] at hn
        split at hn
        · exact Option.some.inj hn
        · cases hn
      | _ => rw [hq] at hn; cases hn
    simp only [Option.bind_some, decide_eq_true_eq, decide_eq_false_iff_not]
    refine ⟨fun h => ?_, fun h => ?_⟩
    · rw [if_pos h, hr]; exact ⟨rfl, h⟩
    · rw [if_neg h]
set_option maxHeartbeats 1000000 in
set_option maxRecDepth 100000 in
theorem conNumber {w : World} {s : ByteArray} {m : Nat} (hs : s.size ≤ 281474976710656) (hm : m < 18446744073709551616) (hL : Laid w) :
    Spec Go.Proofs.Tryd.prog 36 #[.string s, .int .u64 (m : Int)] w [] (fun u _ => u = .tuple #[.int .u64 ((numRes s : Nat) : Int), .bool (okN s m)]) := by
  have hn := numRes_lt s
  have hok := okN_eq s m
  obtain ⟨n, hne⟩ : ∃ n, n = numRes s := ⟨_, rfl⟩
  have hp : ∀ w', Laid w' → Spec Go.Proofs.Tryd.prog 53 #[.string s, .int .i64 10, .int .i64 64] w' [] (fun u H' => ∃ er, u = .tuple #[.int .u64 (n : Int), er] ∧ H' = [] ∧ ErrV er (okOf (parseUintB 64 s.data.toList)).isNone) := fun w' h => by rw [hne]; exact conParse hs h
  rw [← hne] at hn hok ⊢
  rw [← hok]
  obtain ⟨b, hb⟩ : ∃ b, b = (okOf (parseUintB 64 s.data.toList)).isNone := ⟨_, rfl⟩
  rw [← hb] at hp ⊢
  refine Spec.enter (fn := Go.Proofs.Tryd.f36) (n := 27) [.string s, .int .u64 (m : Int)] Go.Proofs.Tryd.func36 (by kernel_rfl) rfl Go.Proofs.Tryd.ntmps36 Go.Proofs.Tryd.results36 rfl (Own.nil _) ?_
  refine JC.rs ?_
  refine Seq.p rfl Ev.assign ?_
  refine Seq.p rfl Ev.assign ?_
  refine Seq.nil ?_
  refine JC.rs ?_
  refine Seq.p rfl Ev.move ?_
  refine Seq.call rfl (fun w' hw => hp _ (hL.upd hw)) (F := []) (by exact List.Perm.refl _) ?_
  rintro _ _ ⟨er, rfl, rfl, her⟩
  simp only [List.nil_append]
  refine Seq.p rfl Ev.move ?_
  refine Seq.p rfl Ev.extract ?_
  refine Seq.p rfl Ev.extract ?_
  refine Seq.p rfl Ev.assign ?_
  refine Seq.p rfl Ev.assign ?_
  refine Seq.nil ?_
  refine JC.rs ?_
  refine Seq.p rfl Ev.move ?_
  refine Seq.p rfl Ev.move ?_
  refine Seq.p rfl (Ev.eqErr her errT) ?_
  refine Seq.p rfl Ev.move ?_
  refine Seq.andG (D := [16, 17, 18, 19, 20]) (d := 16) (t := 20) (k := 4) (hn := fun h16 => ?_) (hx := ?_)
  · repeat (first | refine Seq.gn rfl rfl rfl rfl ?_ | refine Seq.gu rfl rfl rfl ?_)
    refine Seq.p rfl Ev.pickF ?_
    exact Seq.nil ⟨rfl, (by repeat (first | with_reducible exact Off.refl | refine Off.upd ?_ rfl | exact Off.mix | refine Off.mix2 ?_ rfl)), Look.here⟩
  apply Exists.intro
  refine ⟨fun h16 => ?_, fun u20 => ?_⟩
  · try simp only [decide_eq_true_eq, decide_eq_false_iff_not, Bool.and_eq_true, Bool.or_eq_true, Bool.not_eq_true', Bool.not_eq_false', Bool.or_eq_false_iff, Bool.and_eq_false_imp] at h16
    refine Seq.gy rfl rfl rfl ?_
    refine Seq.p rfl Ev.move ?_
    refine Seq.gy rfl rfl rfl ?_
    refine Seq.p rfl Ev.move ?_
    refine Seq.gy rfl rfl rfl ?_
    refine Seq.p rfl Ev.le ?_
    refine Seq.p rfl Ev.pickT ?_
    exact Seq.nil ⟨rfl, (by repeat (first | with_reducible exact Off.refl | refine Off.upd ?_ rfl | exact Off.mix | refine Off.mix2 ?_ rfl)), Look.here⟩
  refine Seq.p rfl Ev.move ?_
  refine Seq.andG (D := [21, 22, 23, 24, 25, 26]) (d := 21) (t := 26) (k := 5) (hn := fun h21 => ?_) (hx := ?_)
  · repeat (first | refine Seq.gn rfl rfl rfl rfl ?_ | refine Seq.gu rfl rfl rfl ?_)
    refine Seq.p rfl Ev.pickF ?_
    exact Seq.nil ⟨rfl, (by repeat (first | with_reducible exact Off.refl | refine Off.upd ?_ rfl | exact Off.mix | refine Off.mix2 ?_ rfl)), Look.here⟩
  apply Exists.intro
  refine ⟨fun h21 => ?_, fun u26 => ?_⟩
  · try simp only [decide_eq_true_eq, decide_eq_false_iff_not, Bool.and_eq_true, Bool.or_eq_true, Bool.not_eq_true', Bool.not_eq_false', Bool.or_eq_false_iff, Bool.and_eq_false_imp] at h21
    refine Seq.gy rfl rfl rfl ?_
    refine Seq.p rfl Ev.move ?_
    refine Seq.gy rfl rfl rfl ?_
    refine Seq.callP rfl (fun w hw => conFormat hn (hL.upd hw).t) ?_
    refine Seq.gy rfl rfl rfl ?_
    refine Seq.p rfl Ev.move ?_
    refine Seq.gy rfl rfl rfl ?_
    refine Seq.p rfl Ev.eqStr ?_
    refine Seq.p rfl Ev.pickT ?_
    exact Seq.nil ⟨rfl, (by repeat (first | with_reducible exact Off.refl | refine Off.upd ?_ rfl | exact Off.mix | refine Off.mix2 ?_ rfl)), Look.here⟩
  refine Seq.p rfl Ev.assign ?_
  refine Seq.p rfl Ev.assign ?_
  refine Seq.nil ?_
  refine JC.ret ?_
  show retQ _ _ _ _ _ _ _ _
  refine ret2 (hp := Part.nil _) (hpost := ?_)
  rfl
/-! names -/
theorem bAt_str {F : List Int} (hB : isBytes F) {i : Nat} (hi : i < F.length) : bAt (strOf F) (Int.toNat (i : Int)) = F[i]! := by
  have h := hB F[i] (List.getElem_mem hi)
  unfold bAt
  rw [Int.toNat_natCast, strOf_toList, List.getElem?_map, List.getElem?_eq_getElem hi, getElem!_pos F i hi]
  show ((UInt8.ofNat F[i].toNat).toNat : Int) = F[i]
  rw [UInt8.toNat_ofNat']
  omega
theorem nameB_all {F : List Int} (h : ∀ j, j < F.length → 65 ≤ F[j]! ∧ F[j]! ≤ 90) : nameB F = (decide (1 ≤ ((strOf F).size : Int)) && decide (((strOf F).size : Int) ≤ 8)) := by
  have h1 : (F.all fun c => decide (65 ≤ c ∧ c ≤ 90)) = true := by
    rw [List.all_eq_true]
    intro c hc
    obtain ⟨j, hj, rfl⟩ := List.getElem_of_mem hc
    have := h j hj
    rw [getElem!_pos F j hj] at this
    exact decide_eq_true this
  unfold nameB
  rw [h1, Bool.true_and, strOf_size, Bool.eq_iff_iff]
  simp only [Bool.and_eq_true, decide_eq_true_eq]
  omega
theorem nameB_bad {F : List Int} {j : Nat} (hj : j < F.length) (h : ¬ (65 ≤ F[j]! ∧ F[j]! ≤ 90)) : nameB F = false := by
  unfold nameB
  rw [Bool.and_eq_false_iff]
  left
  rw [List.all_eq_false]
  refine ⟨F[j], List.getElem_mem hj, ?_⟩
  rw [getElem!_pos F j hj] at h
  simpa using h
set_option maxHeartbeats 1000000 in
set_option maxRecDepth 100000 in
theorem conIsName {w : World} {F : List Int} (hB : isBytes F) (hl : F.length ≤ 281474976710656) : Spec Go.Proofs.Tryd.prog 40 #[.string (strOf F)] w [] (fun u _ => u = .bool (nameB F)) := by
  have hss := strOf_size F
  refine Spec.enter (fn := Go.Proofs.Tryd.f40) (n := 28) [.string (strOf F)] Go.Proofs.Tryd.func40 (by kernel_rfl) rfl Go.Proofs.Tryd.ntmps40 Go.Proofs.Tryd.results40 rfl (Own.nil _) ?_
  refine JC.rs ?_
  refine Seq.p rfl Ev.assign ?_
  refine Seq.nil ?_
  refine JC.seq ?_
  refine JC.rs ?_
  refine Seq.p rfl Ev.move ?_
  refine Seq.p rfl (Ev.lenStr st.string) ?_
  refine Seq.p rfl Ev.move ?_
  refine Seq.nil ?_
  refine JC.blk ?_
  refine JC.loop (α := Nat) (I := fun i e1 H1 => Has [2, 3, 6, 7, 8, 9, 10, 11, 12, 13, 14, 15, 16, 17, 18, 19] [(6, .int .i64 (i : Int))] _ e1 ∧ H1 = [] ∧ i ≤ F.length ∧ ∀ j, j < i → 65 ≤ F[j]! ∧ F[j]! ≤ 90) (μ := fun i => F.length - i) 0 ⟨Has.mk Off.refl (allLook_cons (by repeat (first | exact Look.here | apply Look.there (hne := rfl) | exact Look.const | apply Look.mix rfl | exact Look.arg0 | apply Look.args | exact Look.func)) allLook_nil), rfl, by omega, fun j h => by omega⟩ ?_
  rintro i _ _ ⟨⟨u, rfl⟩, rfl, hi, hlt⟩; dsimp only [setL]
  refine JC.rs ?_
  refine Seq.p rfl Ev.lt ?_
  refine Seq.nil ?_
  refine JC.seq ?_
  first | refine JC.c (ht := fun c7 => ?_) (hf := fun c7 => ?_) | refine JC.cb (ht := fun c7 => ?_) (hf := fun c7 => ?_)
  · -- then_t7
    have hi2 : i < F.length := by omega
    have hb := bAt_str hB hi2
    refine JC.skip ?_
    refine JC.seq ?_
    refine JC.blk ?_
    refine JC.rs ?_
    refine Seq.p rfl Ev.move ?_
    refine Seq.p rfl Ev.assign ?_
    refine Seq.nil ?_
    refine JC.rs ?_
    refine Seq.p rfl Ev.move ?_
    refine Seq.p rfl Ev.move ?_
    refine Seq.p rfl (Ev.indexStr st.string) ?_
    refine Seq.p rfl Ev.lt ?_
    refine Seq.p rfl Ev.move ?_
    refine Seq.orG (D := [13, 14, 15, 16, 17, 18]) (d := 13) (t := 18) (k := 5) (hn := fun h13 => ?_) (hx := ?_)
    · repeat (first | refine Seq.gn rfl rfl rfl rfl ?_ | refine Seq.gu rfl rfl rfl ?_)
      refine Seq.p rfl Ev.pickT ?_
      exact Seq.nil ⟨rfl, (by repeat (first | with_reducible exact Off.refl | refine Off.upd ?_ rfl | exact Off.mix | refine Off.mix2 ?_ rfl)), Look.here⟩
    apply Exists.intro
    refine ⟨fun h13 => ?_, fun u18 => ?_⟩
    · try simp only [decide_eq_true_eq, decide_eq_false_iff_not, Bool.and_eq_true, Bool.or_eq_true, Bool.not_eq_true', Bool.not_eq_false', Bool.or_eq_false_iff, Bool.and_eq_false_imp] at h13
      refine Seq.gy rfl rfl rfl ?_
      refine Seq.p rfl Ev.move ?_
      refine Seq.gy rfl rfl rfl ?_
      refine Seq.p rfl Ev.move ?_
      refine Seq.gy rfl rfl rfl ?_
      refine Seq.p rfl (Ev.indexStr st.string) ?_
      refine Seq.gy rfl rfl rfl ?_
      refine Seq.p rfl Ev.gt ?_
      refine Seq.p rfl Ev.pickF ?_
      exact Seq.nil ⟨rfl, (by repeat (first | with_reducible exact Off.refl | refine Off.upd ?_ rfl | exact Off.mix | refine Off.mix2 ?_ rfl)), Look.here⟩
    refine Seq.nil ?_
    first | refine JC.c (ht := fun c18 => ?_) (hf := fun c18 => ?_) | refine JC.cb (ht := fun c18 => ?_) (hf := fun c18 => ?_)
    · -- then_t18
      refine JC.rs ?_
      refine Seq.p rfl Ev.assign ?_
      refine Seq.nil ?_
      refine JC.ret ?_
      show retQ _ _ _ _ _ _ _ _
      refine ret1 (hp := Part.nil _) (hpost := ?_)
      rw [hb] at c18
      simp only [Bool.or_eq_true, decide_eq_true_eq] at c18
      rw [nameB_bad hi2 (by omega)]
    · -- else_t18
      refine JC.skip ?_
      refine JC.reg ?_
      refine Seq.p rfl (by first | exact Ev.inc | exact Ev.add) ?_
      refine Seq.p rfl Ev.move ?_
      refine Seq.nil ?_
      rw [hb] at c18
      simp only [Bool.or_eq_false_iff, decide_eq_false_iff_not] at c18
      refine ⟨i + 1, _, Part.refl _, ⟨Has.mk (by repeat (first | refine Off.upd ?_ rfl | exact Off.mix | refine Off.mix2 ?_ rfl | exact Off.refl)) (allLook_cons (by repeat (first | exact Look.here | apply Look.there (hne := rfl) | exact Look.const | apply Look.mix rfl | exact Look.arg0 | apply Look.args | exact Look.func)) allLook_nil), rfl, by omega, fun j hj => ?_⟩, by omega⟩
      by_cases h : j = i
      · rw [h]; omega
      · exact hlt j (by omega)
  · -- else_t7
    refine JC.exit ?_ -- 0
    refine JC.rs ?_
    refine Seq.p rfl Ev.move ?_
    refine Seq.p rfl (Ev.lenStr st.string) ?_
    refine Seq.p rfl Ev.ge ?_
    refine Seq.p rfl Ev.move ?_
    refine Seq.andG (D := [23, 24, 25, 26, 27]) (d := 23) (t := 27) (k := 4) (hn := fun h23 => ?_) (hx := ?_)
    · repeat (first | refine Seq.gn rfl rfl rfl rfl ?_ | refine Seq.gu rfl rfl rfl ?_)
      refine Seq.p rfl Ev.pickF ?_
      exact Seq.nil ⟨rfl, (by repeat (first | with_reducible exact Off.refl | refine Off.upd ?_ rfl | exact Off.mix | refine Off.mix2 ?_ rfl)), Look.here⟩
    apply Exists.intro
    refine ⟨fun h23 => ?_, fun u27 => ?_⟩
    · try simp only [decide_eq_true_eq, decide_eq_false_iff_not, Bool.and_eq_true, Bool.or_eq_true, Bool.not_eq_true', Bool.not_eq_false', Bool.or_eq_false_iff, Bool.and_eq_false_imp] at h23
      refine Seq.gy rfl rfl rfl ?_
      refine Seq.p rfl Ev.move ?_
      refine Seq.gy rfl rfl rfl ?_
      refine Seq.p rfl (Ev.lenStr st.string) ?_
      refine Seq.gy rfl rfl rfl ?_
      refine Seq.p rfl Ev.le ?_
      refine Seq.p rfl Ev.pickT ?_
      exact Seq.nil ⟨rfl, (by repeat (first | with_reducible exact Off.refl | refine Off.upd ?_ rfl | exact Off.mix | refine Off.mix2 ?_ rfl)), Look.here⟩
    refine Seq.p rfl Ev.assign ?_
    refine Seq.nil ?_
    refine JC.ret ?_
    show retQ _ _ _ _ _ _ _ _
    refine ret1 (hp := Part.nil _) (hpost := ?_)
    rw [nameB_all (fun j hj => hlt j (by omega))]
end Go.Rx
/- Operators' lines: the fields' functions: what reads a word, what writes it. -/
namespace Go.Rx
open Go Go.RowKit Go.Lib Go.Proofs.YtonoamdonmbkpaaDoor
set_option linter.unusedVariables false
set_option linter.unusedSimpArgs false
def ReadPost (k : Fk) (o : Opn) (F : List Int) (b : Nat) (u : Value) (H' : List Chunk) : Prop :=
  ∃ (ok : Bool) (cs : List Value), u = .bool ok ∧ H' = [.box b 27 cs] ∧ (match putF k o F with | some o' => ok = true ∧ cs = o'.enc | none => ok = false)
def ReadsAs (L : List Chunk) (k : Fk) (rv : Value) : Prop := ∃ (f : FuncId) (cap : List Value), rv = .func (.func f) #[] cap.toArray ∧
  ∀ (w : World) (b : Nat) (o : Opn) (F : List Int), Own w (.box b 27 o.enc :: L) → (∀ w' H', Upd w w' [.box b 27 o.enc] H' → Laid w') → isBytes F → F.length ≤ 281474976710656 →
    Spec Go.Proofs.Tryd.prog f ([] ++ [Value.pointer (some ⟨b, 0, none⟩), Value.string (strOf F)] ++ cap).toArray w [.box b 27 o.enc] (ReadPost k o F b)
structure OpnOk (o : Opn) : Prop where
  member : 0 ≤ o.member ∧ o.member ≤ 4294967295
  price : -9223372036854775808 ≤ o.price ∧ o.price ≤ 9223372036854775807
  count : -9223372036854775808 ≤ o.count ∧ o.count ≤ 9223372036854775807
  ord : 0 ≤ o.ord ∧ o.ord ≤ 18446744073709551615
  opn : 0 ≤ o.opn ∧ o.opn ≤ 18446744073709551615
  lcount : -9223372036854775808 ≤ o.lcount ∧ o.lcount ≤ 9223372036854775807
  pos : 0 ≤ o.pos ∧ o.pos ≤ 18446744073709551615
  worth : 0 ≤ o.worth ∧ o.worth ≤ 18446744073709551615
def WritesAs (L : List Chunk) (k : Fk) (wv : Value) : Prop := ∃ (f : FuncId) (cap : List Value), wv = .func (.func f) #[] cap.toArray ∧
  ∀ (w : World) (o : Opn), Own w L → LaidT w → OpnOk o →
    Spec Go.Proofs.Tryd.prog f ([] ++ [Value.agg o.enc.toArray] ++ cap).toArray w [] (fun u _ => u = .string (writeF k o))
theorem ReadsAs.part {L L' : List Chunk} {k : Fk} {rv : Value} (h : ReadsAs L k rv) (hp : Part L L') : ReadsAs L' k rv := by
  obtain ⟨f, cap, h1, h2⟩ := h
  exact ⟨f, cap, h1, fun w b o F hO => h2 w b o F ((Part.here hp).own hO)⟩
theorem WritesAs.part {L L' : List Chunk} {k : Fk} {wv : Value} (h : WritesAs L k wv) (hp : Part L L') : WritesAs L' k wv := by
  obtain ⟨f, cap, h1, h2⟩ := h
  exact ⟨f, cap, h1, fun w o hO => h2 w o (hp.own hO)⟩
theorem own_cell {w : World} {c : Chunk} {L : List Chunk} {i b off : Nat} {t : TypeId} {cs : List Value} {v : Value} (hO : Own w (c :: L)) (hi : At L i (.box b t cs)) (hv : cs[off]? = some v) : Cell w [c] ⟨b, off, none⟩ v := by
  have hm : Chunk.box b t cs ∈ L := List.mem_of_getElem? hi.eq
  have hok : (Chunk.box b t cs).ok w := hO.ok _ (List.mem_cons_of_mem _ hm)
  refine ⟨?_, ?_⟩
  · rw [cell_of_row w b off cs.toArray t (0, 0) hok]
    simpa using hv
  · intro d hd
    have hd' : d = c := by simpa using hd
    subst hd'
    intro hf
    exact (List.pairwise_cons.1 hO.sep).1 _ hm b hf rfl
theorem own_cell0 {w : World} {L : List Chunk} {i b off : Nat} {t : TypeId} {cs : List Value} {v : Value} (hO : Own w L) (hi : At L i (.box b t cs)) (hv : cs[off]? = some v) : Cell w [] ⟨b, off, none⟩ v := by
  have hok : (Chunk.box b t cs).ok w := hO.ok _ (List.mem_of_getElem? hi.eq)
  refine ⟨?_, by simp⟩
  rw [cell_of_row w b off cs.toArray t (0, 0) hok]
  simpa using hv
theorem own_head {w : World} {c : Chunk} {L : List Chunk} (h : Own w (c :: L)) : Own w [c] := h.sub (List.singleton_sublist.2 (List.mem_cons_self ..))
/-! names -/
set_option maxRecDepth 100000 in
theorem readName {w : World} {b : Nat} {o : Opn} {F : List Int} (hO : Own w [.box b 27 o.enc]) (hB : isBytes F) (hl : F.length ≤ 281474976710656) :
    Spec Go.Proofs.Tryd.prog 39 #[.pointer (some ⟨b, 0, none⟩), .string (strOf F)] w [.box b 27 o.enc] (ReadPost .name o F b) := by
  refine Spec.enter (fn := Go.Proofs.Tryd.f39) (n := 11) [.pointer (some ⟨b, 0, none⟩), .string (strOf F)] Go.Proofs.Tryd.func39 (by kernel_rfl) rfl Go.Proofs.Tryd.ntmps39 Go.Proofs.Tryd.results39 rfl hO ?_
  refine JC.rs ?_
  refine Seq.p rfl Ev.assign ?_
  refine Seq.nil ?_
  refine JC.rs ?_
  refine Seq.p rfl Ev.move ?_
  refine Seq.p rfl Ev.move ?_
  refine Seq.p rfl Ev.nilP ?_
  refine Seq.p rfl (Ev.faB fd.api_Operation_1) ?_
  refine Seq.storeTo (cs' := Opn.enc { o with name := strOf F }) sz.string (hH := At.z) (hfit := Nat.le_of_ble_eq_true rfl) (hcs := rfl) (k := ?_)
  refine Seq.nil ?_
  refine JC.rs ?_
  refine Seq.p rfl Ev.move ?_
  refine Seq.callP rfl (fun w hw => conIsName hB hl) ?_
  refine Seq.p rfl Ev.assign ?_
  refine Seq.nil ?_
  refine JC.ret ?_
  show retQ _ _ _ _ _ _ _ _
  refine ret1 (hp := Part.refl _) (hpost := ?_)
  refine ⟨_, _, rfl, rfl, ?_⟩
  simp only [putF]
  by_cases h : nameB F = true
  · rw [if_pos h]; exact ⟨h, rfl⟩
  · rw [if_neg h]; simpa using h
theorem writeName {w : World} {o : Opn} : Spec Go.Proofs.Tryd.prog 41 #[.agg o.enc.toArray] w [] (fun u _ => u = .string (writeF .name o)) := by
  refine Spec.enter (fn := Go.Proofs.Tryd.f41) (n := 5) [.agg o.enc.toArray] Go.Proofs.Tryd.func41 (by kernel_rfl) rfl Go.Proofs.Tryd.ntmps41 Go.Proofs.Tryd.results41 rfl (Own.nil _) ?_
  refine JC.rs ?_
  refine Seq.box (cs := [_, _, _, _, _, _, _, _, _, _, _]) (k := ?_); intro b1
  refine Seq.p rfl Ev.assign ?_
  refine Seq.nil ?_
  refine JC.rs ?_
  refine Seq.p rfl (Ev.faB fd.api_Operation_1) ?_
  refine Seq.p rfl (Ev.ldB sc.string) ?_
  refine Seq.p rfl Ev.assign ?_
  refine Seq.nil ?_
  refine JC.ret ?_
  show retQ _ _ _ _ _ _ _ _
  refine ret1 (hp := Part.nil _) (hpost := ?_)
  rfl
/-! members -/
set_option maxRecDepth 100000 in
theorem readMember {w : World} {b : Nat} {o : Opn} {F : List Int} (hO : Own w [.box b 27 o.enc]) (hL : ∀ w' H', Upd w w' [.box b 27 o.enc] H' → Laid w') (hB : isBytes F) (hl : F.length ≤ 281474976710656) :
    Spec Go.Proofs.Tryd.prog 42 #[.pointer (some ⟨b, 0, none⟩), .string (strOf F)] w [.box b 27 o.enc] (ReadPost .member o F b) := by
  have hss := strOf_size F
  have hn := numRes_lt (strOf F)
  obtain ⟨hw1, hw2⟩ := okN_within (F := F) (m := 4294967295)
  obtain ⟨n, hne⟩ : ∃ n, n = numRes (strOf F) := ⟨_, rfl⟩
  have hN : ∀ w', Laid w' → Spec Go.Proofs.Tryd.prog 36 #[.string (strOf F), .int .u64 4294967295] w' [] (fun u _ => u = .tuple #[.int .u64 (n : Int), .bool (okN (strOf F) 4294967295)]) := fun w' h => by rw [hne]; exact conNumber (m := 4294967295) (by omega) (by omega) h
  rw [← hne] at hn hw1
  refine Spec.enter (fn := Go.Proofs.Tryd.f42) (n := 22) [.pointer (some ⟨b, 0, none⟩), .string (strOf F)] Go.Proofs.Tryd.func42 (by kernel_rfl) rfl Go.Proofs.Tryd.ntmps42 Go.Proofs.Tryd.results42 rfl hO ?_
  refine JC.rs ?_
  refine Seq.p rfl Ev.assign ?_
  refine Seq.nil ?_
  refine JC.rs ?_
  refine Seq.p rfl Ev.move ?_
  refine Seq.callP rfl (fun w' hw => hN w' (hL w' _ hw)) ?_
  refine Seq.p rfl Ev.move ?_
  refine Seq.p rfl Ev.extract ?_
  refine Seq.p rfl Ev.extract ?_
  refine Seq.p rfl Ev.assign ?_
  refine Seq.p rfl Ev.assign ?_
  refine Seq.nil ?_
  refine JC.rs ?_
  refine Seq.p rfl Ev.move ?_
  refine Seq.p rfl Ev.move ?_
  refine Seq.p rfl (Ev.convU32W it.uint64 it.uint32) ?_
  refine Seq.p rfl Ev.nilP ?_
  refine Seq.p rfl (Ev.faB fd.api_Operation_2) ?_
  refine Seq.storeTo (cs' := Opn.enc { o with member := (n : Int) % 4294967296 }) sz.uint32 (hH := At.z) (hfit := Nat.le_of_ble_eq_true rfl) (hcs := rfl) (k := ?_)
  refine Seq.nil ?_
  refine JC.rs ?_
  refine Seq.p rfl Ev.move ?_
  refine Seq.p rfl Ev.move ?_
  refine Seq.andG (D := [18, 19, 20, 21]) (d := 18) (t := 21) (k := 3) (hn := fun h18 => ?_) (hx := ?_)
  · repeat (first | refine Seq.gn rfl rfl rfl rfl ?_ | refine Seq.gu rfl rfl rfl ?_)
    refine Seq.p rfl Ev.pickF ?_
    exact Seq.nil ⟨rfl, (by repeat (first | with_reducible exact Off.refl | refine Off.upd ?_ rfl | exact Off.mix | refine Off.mix2 ?_ rfl)), Look.here⟩
  apply Exists.intro
  refine ⟨fun h18 => ?_, fun u21 => ?_⟩
  · try simp only [decide_eq_true_eq, decide_eq_false_iff_not, Bool.and_eq_true, Bool.or_eq_true, Bool.not_eq_true', Bool.not_eq_false', Bool.or_eq_false_iff, Bool.and_eq_false_imp] at h18
    refine Seq.gy rfl rfl rfl ?_
    refine Seq.p rfl Ev.move ?_
    refine Seq.gy rfl rfl rfl ?_
    refine Seq.p rfl Ev.ge ?_
    refine Seq.p rfl Ev.pickT ?_
    exact Seq.nil ⟨rfl, (by repeat (first | with_reducible exact Off.refl | refine Off.upd ?_ rfl | exact Off.mix | refine Off.mix2 ?_ rfl)), Look.here⟩
  refine Seq.p rfl Ev.assign ?_
  refine Seq.nil ?_
  refine JC.ret ?_
  show retQ _ _ _ _ _ _ _ _
  refine ret1 (hp := Part.refl _) (hpost := ?_)
  refine ⟨_, _, rfl, rfl, ?_⟩
  simp only [putF]
  cases hok : okN (strOf F) 4294967295 with
  | true =>
    obtain ⟨h1, h2⟩ := hw1 hok
    rw [h1]
    simp only [Option.bind_some, Bool.true_and]
    by_cases h : 1 ≤ n
    · rw [if_pos h]; exact ⟨decide_eq_true (by omega), by rw [show (n : Int) % 4294967296 = (n : Int) by omega]⟩
    · rw [if_neg h]; exact decide_eq_false (by omega)
  | false =>
    rw [hw2 hok]
    rfl
theorem writeMember {w : World} {o : Opn} (hL : LaidT w) (ho : OpnOk o) : Spec Go.Proofs.Tryd.prog 43 #[.agg o.enc.toArray] w [] (fun u _ => u = .string (writeF .member o)) := by
  obtain ⟨n, hn⟩ : ∃ n : Nat, o.member = (n : Int) := ⟨o.member.toNat, by have := ho.member; omega⟩
  have hb := ho.member
  have hw : writeF .member o = decS n := by simp [writeF, hn]
  rw [hw]
  refine Spec.enter (fn := Go.Proofs.Tryd.f43) (n := 7) [.agg o.enc.toArray] Go.Proofs.Tryd.func43 (by kernel_rfl) rfl Go.Proofs.Tryd.ntmps43 Go.Proofs.Tryd.results43 rfl (Own.nil _) ?_
  refine JC.rs ?_
  refine Seq.box (cs := [_, _, _, _, _, _, _, _, _, _, _]) (k := ?_); intro b1
  refine Seq.p rfl Ev.assign ?_
  refine Seq.nil ?_
  refine JC.rs ?_
  refine Seq.p rfl (Ev.faB fd.api_Operation_2) ?_
  refine Seq.p rfl (Ev.ldB sc.uint32) ?_
  refine Seq.p rfl (Ev.as (v := .int .u64 o.member) (v' := .int .u64 (n : Int)) (by rw [hn]) (Ev.convU64 it.uint32 it.uint64)) ?_
  refine Seq.callP rfl (fun w hw => conFormat (by omega) (hL.upd hw)) ?_
  refine Seq.p rfl Ev.assign ?_
  refine Seq.nil ?_
  refine JC.ret ?_
  show retQ _ _ _ _ _ _ _ _
  refine ret1 (hp := Part.nil _) (hpost := ?_)
  rfl
/-! counts -/
theorem at1 {w : World} {b : Nat} : Spec Go.Proofs.Tryd.prog 19 #[.pointer (some ⟨b, 0, none⟩)] w [] (fun u _ => u = .pointer (some ⟨b, 3, none⟩)) := by
  refine Spec.enter (fn := Go.Proofs.Tryd.f19) (n := 6) [.pointer (some ⟨b, 0, none⟩)] Go.Proofs.Tryd.func19 (by kernel_rfl) rfl Go.Proofs.Tryd.ntmps19 Go.Proofs.Tryd.results19 rfl (Own.nil _) ?_
  refine JC.rs ?_
  refine Seq.p rfl Ev.assign ?_
  refine Seq.nil ?_
  refine JC.rs ?_
  refine Seq.p rfl Ev.move ?_
  refine Seq.p rfl Ev.nilP ?_
  refine Seq.p rfl (Ev.faB fd.api_Operation_3) ?_
  refine Seq.p rfl Ev.assign ?_
  refine Seq.nil ?_
  refine JC.ret ?_
  show retQ _ _ _ _ _ _ _ _
  refine ret1 (hp := Part.nil _) (hpost := ?_)
  rfl
theorem at2 {w : World} {b : Nat} : Spec Go.Proofs.Tryd.prog 22 #[.pointer (some ⟨b, 0, none⟩)] w [] (fun u _ => u = .pointer (some ⟨b, 4, none⟩)) := by
  refine Spec.enter (fn := Go.Proofs.Tryd.f22) (n := 6) [.pointer (some ⟨b, 0, none⟩)] Go.Proofs.Tryd.func22 (by kernel_rfl) rfl Go.Proofs.Tryd.ntmps22 Go.Proofs.Tryd.results22 rfl (Own.nil _) ?_
  refine JC.rs ?_
  refine Seq.p rfl Ev.assign ?_
  refine Seq.nil ?_
  refine JC.rs ?_
  refine Seq.p rfl Ev.move ?_
  refine Seq.p rfl Ev.nilP ?_
  refine Seq.p rfl (Ev.faB fd.api_Operation_4) ?_
  refine Seq.p rfl Ev.assign ?_
  refine Seq.nil ?_
  refine JC.ret ?_
  show retQ _ _ _ _ _ _ _ _
  refine ret1 (hp := Part.nil _) (hpost := ?_)
  rfl
theorem at5 {w : World} {b : Nat} : Spec Go.Proofs.Tryd.prog 26 #[.pointer (some ⟨b, 0, none⟩)] w [] (fun u _ => u = .pointer (some ⟨b, 7, none⟩)) := by
  refine Spec.enter (fn := Go.Proofs.Tryd.f26) (n := 7) [.pointer (some ⟨b, 0, none⟩)] Go.Proofs.Tryd.func26 (by kernel_rfl) rfl Go.Proofs.Tryd.ntmps26 Go.Proofs.Tryd.results26 rfl (Own.nil _) ?_
  refine JC.rs ?_
  refine Seq.p rfl Ev.assign ?_
  refine Seq.nil ?_
  refine JC.rs ?_
  refine Seq.p rfl Ev.move ?_
  refine Seq.p rfl Ev.nilP ?_
  refine Seq.p rfl (Ev.faB fd.api_Operation_5) ?_
  refine Seq.p rfl (Ev.faB fd.api_Limits_2) ?_
  refine Seq.p rfl Ev.assign ?_
  refine Seq.nil ?_
  refine JC.ret ?_
  show retQ _ _ _ _ _ _ _ _
  refine ret1 (hp := Part.nil _) (hpost := ?_)
  rfl
theorem at3 {w : World} {b : Nat} : Spec Go.Proofs.Tryd.prog 24 #[.pointer (some ⟨b, 5, none⟩)] w [] (fun u _ => u = .pointer (some ⟨b, 5, none⟩)) := by
  refine Spec.enter (fn := Go.Proofs.Tryd.f24) (n := 6) [.pointer (some ⟨b, 5, none⟩)] Go.Proofs.Tryd.func24 (by kernel_rfl) rfl Go.Proofs.Tryd.ntmps24 Go.Proofs.Tryd.results24 rfl (Own.nil _) ?_
  refine JC.rs ?_
  refine Seq.p rfl Ev.assign ?_
  refine Seq.nil ?_
  refine JC.rs ?_
  refine Seq.p rfl Ev.move ?_
  refine Seq.p rfl Ev.nilP ?_
  refine Seq.p rfl (Ev.faB fd.api_Limits_0) ?_
  refine Seq.p rfl Ev.assign ?_
  refine Seq.nil ?_
  refine JC.ret ?_
  show retQ _ _ _ _ _ _ _ _
  refine ret1 (hp := Part.nil _) (hpost := ?_)
  rfl
theorem at4 {w : World} {b : Nat} : Spec Go.Proofs.Tryd.prog 25 #[.pointer (some ⟨b, 5, none⟩)] w [] (fun u _ => u = .pointer (some ⟨b, 6, none⟩)) := by
  refine Spec.enter (fn := Go.Proofs.Tryd.f25) (n := 6) [.pointer (some ⟨b, 5, none⟩)] Go.Proofs.Tryd.func25 (by kernel_rfl) rfl Go.Proofs.Tryd.ntmps25 Go.Proofs.Tryd.results25 rfl (Own.nil _) ?_
  refine JC.rs ?_
  refine Seq.p rfl Ev.assign ?_
  refine Seq.nil ?_
  refine JC.rs ?_
  refine Seq.p rfl Ev.move ?_
  refine Seq.p rfl Ev.nilP ?_
  refine Seq.p rfl (Ev.faB fd.api_Limits_1) ?_
  refine Seq.p rfl Ev.assign ?_
  refine Seq.nil ?_
  refine JC.ret ?_
  show retQ _ _ _ _ _ _ _ _
  refine ret1 (hp := Part.nil _) (hpost := ?_)
  rfl
theorem at6 {w : World} {b : Nat} : Spec Go.Proofs.Tryd.prog 27 #[.pointer (some ⟨b, 5, none⟩)] w [] (fun u _ => u = .pointer (some ⟨b, 8, none⟩)) := by
  refine Spec.enter (fn := Go.Proofs.Tryd.f27) (n := 6) [.pointer (some ⟨b, 5, none⟩)] Go.Proofs.Tryd.func27 (by kernel_rfl) rfl Go.Proofs.Tryd.ntmps27 Go.Proofs.Tryd.results27 rfl (Own.nil _) ?_
  refine JC.rs ?_
  refine Seq.p rfl Ev.assign ?_
  refine Seq.nil ?_
  refine JC.rs ?_
  refine Seq.p rfl Ev.move ?_
  refine Seq.p rfl Ev.nilP ?_
  refine Seq.p rfl (Ev.faB fd.api_Limits_3) ?_
  refine Seq.p rfl Ev.assign ?_
  refine Seq.nil ?_
  refine JC.ret ?_
  show retQ _ _ _ _ _ _ _ _
  refine ret1 (hp := Part.nil _) (hpost := ?_)
  rfl
theorem at7 {w : World} {b : Nat} : Spec Go.Proofs.Tryd.prog 28 #[.pointer (some ⟨b, 5, none⟩)] w [] (fun u _ => u = .pointer (some ⟨b, 9, none⟩)) := by
  refine Spec.enter (fn := Go.Proofs.Tryd.f28) (n := 6) [.pointer (some ⟨b, 5, none⟩)] Go.Proofs.Tryd.func28 (by kernel_rfl) rfl Go.Proofs.Tryd.ntmps28 Go.Proofs.Tryd.results28 rfl (Own.nil _) ?_
  refine JC.rs ?_
  refine Seq.p rfl Ev.assign ?_
  refine Seq.nil ?_
  refine JC.rs ?_
  refine Seq.p rfl Ev.move ?_
  refine Seq.p rfl Ev.nilP ?_
  refine Seq.p rfl (Ev.faB fd.api_Limits_4) ?_
  refine Seq.p rfl Ev.assign ?_
  refine Seq.nil ?_
  refine JC.ret ?_
  show retQ _ _ _ _ _ _ _ _
  refine ret1 (hp := Part.nil _) (hpost := ?_)
  rfl
set_option maxHeartbeats 1000000 in
set_option maxRecDepth 100000 in
theorem readCount {w : World} {b b3 b4 b5 m off : Nat} {k : Fk} {f : FuncId} {o : Opn} {setc : Int → Opn} {F : List Int} (hO : Own w [.box b 27 o.enc])
    (h3 : Cell w [.box b 27 o.enc] ⟨b3, 0, none⟩ (.int .u64 0)) (h4 : Cell w [.box b 27 o.enc] ⟨b4, 0, none⟩ (.int .u64 (m : Int))) (h5 : Cell w [.box b 27 o.enc] ⟨b5, 0, none⟩ (.func (.func f) #[] #[]))
    (hat : ∀ w', Spec Go.Proofs.Tryd.prog f #[.pointer (some ⟨b, 0, none⟩)] w' [] (fun u _ => u = .pointer (some ⟨b, off, none⟩))) (hoff : off + 1 ≤ 11)
    (hset : ∀ z : Int, o.enc.take off ++ [Value.int .i64 z] ++ o.enc.drop (off + 1) = (setc z).enc) (hput : putF k o F = (within F m).map fun (n : Nat) => setc (n : Int)) (hm : m ≤ 9223372036854775807)
    (hL : ∀ w' H', Upd w w' [.box b 27 o.enc] H' → Laid w') (hB : isBytes F) (hl : F.length ≤ 281474976710656) :
    Spec Go.Proofs.Tryd.prog 35 #[.pointer (some ⟨b, 0, none⟩), .string (strOf F), .pointer (some ⟨b4, 0, none⟩), .pointer (some ⟨b5, 0, none⟩), .pointer (some ⟨b3, 0, none⟩)] w [.box b 27 o.enc] (ReadPost k o F b) := by
  have hss := strOf_size F
  have hn := numRes_lt (strOf F)
  obtain ⟨hw1, hw2⟩ := okN_within (F := F) (m := m)
  obtain ⟨n, hne⟩ : ∃ n, n = numRes (strOf F) := ⟨_, rfl⟩
  have hN : ∀ w', Laid w' → Spec Go.Proofs.Tryd.prog 36 #[.string (strOf F), .int .u64 (m : Int)] w' [] (fun u _ => u = .tuple #[.int .u64 (n : Int), .bool (okN (strOf F) m)]) := fun w' h => by rw [hne]; exact conNumber (m := m) (by omega) (by omega) h
  rw [← hne] at hn hw1
  refine Spec.enter (fn := Go.Proofs.Tryd.f35) (n := 28) [.pointer (some ⟨b, 0, none⟩), .string (strOf F), .pointer (some ⟨b4, 0, none⟩), .pointer (some ⟨b5, 0, none⟩), .pointer (some ⟨b3, 0, none⟩)] Go.Proofs.Tryd.func35 (by kernel_rfl) rfl Go.Proofs.Tryd.ntmps35 Go.Proofs.Tryd.results35 rfl hO ?_
  refine JC.rs ?_
  refine Seq.p rfl Ev.assign ?_
  refine Seq.nil ?_
  refine JC.rs ?_
  refine Seq.p rfl Ev.move ?_
  refine Seq.p rfl (Ev.ldS sc.uint64 (Cells.cell h4)) ?_
  refine Seq.callP rfl (fun w' hw => hN w' (hL w' _ hw)) ?_
  refine Seq.p rfl Ev.move ?_
  refine Seq.p rfl Ev.extract ?_
  refine Seq.p rfl Ev.extract ?_
  refine Seq.p rfl Ev.assign ?_
  refine Seq.p rfl Ev.assign ?_
  refine Seq.nil ?_
  refine JC.rs ?_
  refine Seq.p rfl (Ev.ldS sc.func_api_Operation_int (Cells.cell h5)) ?_
  refine Seq.p rfl Ev.move ?_
  refine Seq.callvP (first := []) (cap := []) rfl rfl (fun w' hw => hat w') ?_
  refine Seq.p rfl Ev.move ?_
  refine Seq.p rfl (Ev.convW it.uint64 it.int) ?_
  refine Seq.p rfl Ev.nilP ?_
  refine Seq.storeTo (cs' := (setc (IntKind.i64.wrap (n : Int))).enc) sz.int (hH := At.z) (hfit := hoff) (hcs := hset _) (k := ?_)
  refine Seq.nil ?_
  refine JC.rs ?_
  refine Seq.p rfl Ev.move ?_
  refine Seq.p rfl Ev.move ?_
  refine Seq.andG (D := [23, 24, 25, 26, 27]) (d := 23) (t := 27) (k := 4) (hn := fun h23 => ?_) (hx := ?_)
  · repeat (first | refine Seq.gn rfl rfl rfl rfl ?_ | refine Seq.gu rfl rfl rfl ?_)
    refine Seq.p rfl Ev.pickF ?_
    exact Seq.nil ⟨rfl, (by repeat (first | with_reducible exact Off.refl | refine Off.upd ?_ rfl | exact Off.mix | refine Off.mix2 ?_ rfl)), Look.here⟩
  apply Exists.intro
  refine ⟨fun h23 => ?_, fun u27 => ?_⟩
  · try simp only [decide_eq_true_eq, decide_eq_false_iff_not, Bool.and_eq_true, Bool.or_eq_true, Bool.not_eq_true', Bool.not_eq_false', Bool.or_eq_false_iff, Bool.and_eq_false_imp] at h23
    refine Seq.gy rfl rfl rfl ?_
    refine Seq.p rfl Ev.move ?_
    refine Seq.gy rfl rfl rfl ?_
    refine Seq.p rfl (Ev.ldS sc.uint64 (Cells.cell h3)) ?_
    refine Seq.gy rfl rfl rfl ?_
    refine Seq.p rfl Ev.ge ?_
    refine Seq.p rfl Ev.pickT ?_
    exact Seq.nil ⟨rfl, (by repeat (first | with_reducible exact Off.refl | refine Off.upd ?_ rfl | exact Off.mix | refine Off.mix2 ?_ rfl)), Look.here⟩
  refine Seq.p rfl Ev.assign ?_
  refine Seq.nil ?_
  refine JC.ret ?_
  show retQ _ _ _ _ _ _ _ _
  refine ret1 (hp := Part.refl _) (hpost := ?_)
  refine ⟨_, _, rfl, rfl, ?_⟩
  rw [hput]
  cases hok : okN (strOf F) m with
  | true =>
    obtain ⟨h1, h2⟩ := hw1 hok
    rw [h1]
    refine ⟨?_, by rw [wrap_i64 _ (by omega)]⟩
    simp only [Bool.true_and]
    exact decide_eq_true (by omega)
  | false =>
    rw [hw2 hok]
    rfl
end Go.Rx
/- Operators' lines: limits, what is written, the fields of a word. -/
namespace Go.Rx
open Go Go.RowKit Go.Lib Go.Proofs.YtonoamdonmbkpaaDoor
set_option linter.unusedVariables false
set_option linter.unusedSimpArgs false
set_option maxHeartbeats 1000000 in
set_option maxRecDepth 100000 in
theorem readLimit {w : World} {b bx off : Nat} {k : Fk} {f : FuncId} {o : Opn} {setc : Int → Opn} {F : List Int} (hO : Own w [.box b 27 o.enc])
    (hx : Cell w [.box b 27 o.enc] ⟨bx, 0, none⟩ (.func (.func f) #[] #[]))
    (hat : ∀ w', Spec Go.Proofs.Tryd.prog f #[.pointer (some ⟨b, 5, none⟩)] w' [] (fun u _ => u = .pointer (some ⟨b, off, none⟩))) (hoff : off + 1 ≤ 11)
    (hset : ∀ z : Int, (Opn.enc { o with has := true }).take off ++ [Value.int .u64 z] ++ (Opn.enc { o with has := true }).drop (off + 1) = (setc z).enc) (hput : putF k o F = (within F 18446744073709551615).map fun (n : Nat) => setc (n : Int))
    (hL : ∀ w' H', Upd w w' [.box b 27 o.enc] H' → Laid w') (hB : isBytes F) (hl : F.length ≤ 281474976710656) :
    Spec Go.Proofs.Tryd.prog 45 #[.pointer (some ⟨b, 0, none⟩), .string (strOf F), .pointer (some ⟨bx, 0, none⟩)] w [.box b 27 o.enc] (ReadPost k o F b) := by
  have hss := strOf_size F
  have hn := numRes_lt (strOf F)
  obtain ⟨hw1, hw2⟩ := okN_within (F := F) (m := 18446744073709551615)
  obtain ⟨n, hne⟩ : ∃ n, n = numRes (strOf F) := ⟨_, rfl⟩
  have hN : ∀ w', Laid w' → Spec Go.Proofs.Tryd.prog 36 #[.string (strOf F), .int .u64 18446744073709551615] w' [] (fun u _ => u = .tuple #[.int .u64 (n : Int), .bool (okN (strOf F) 18446744073709551615)]) := fun w' h => by rw [hne]; exact conNumber (m := 18446744073709551615) (by omega) (by omega) h
  rw [← hne] at hn hw1
  refine Spec.enter (fn := Go.Proofs.Tryd.f45) (n := 21) [.pointer (some ⟨b, 0, none⟩), .string (strOf F), .pointer (some ⟨bx, 0, none⟩)] Go.Proofs.Tryd.func45 (by kernel_rfl) rfl Go.Proofs.Tryd.ntmps45 Go.Proofs.Tryd.results45 rfl hO ?_
  refine JC.rs ?_
  refine Seq.p rfl Ev.assign ?_
  refine Seq.nil ?_
  refine JC.rs ?_
  refine Seq.p rfl Ev.move ?_
  refine Seq.p rfl Ev.nilP ?_
  refine Seq.p rfl (Ev.faB fd.api_Operation_6) ?_
  refine Seq.storeTo (cs' := Opn.enc { o with has := true }) sz.bool (hH := At.z) (hfit := Nat.le_of_ble_eq_true rfl) (hcs := rfl) (k := ?_)
  refine Seq.nil ?_
  refine JC.asE 0 mixed ?_
  refine Any.p 0 rfl (by kernel_rfl) (by kernel_rfl) (by kernel_rfl) rfl (Ev.ldS sc.func_api_Limits_uint64 (Cells.cell hx)) ?_
  refine Any.p 1 rfl (by kernel_rfl) (by kernel_rfl) (by kernel_rfl) rfl Ev.move ?_
  refine Any.p 2 rfl (by kernel_rfl) (by kernel_rfl) (by kernel_rfl) rfl Ev.nilP ?_
  refine Any.p 3 rfl (by kernel_rfl) (by kernel_rfl) (by kernel_rfl) rfl (Ev.faB fd.api_Operation_5) ?_
  refine Any.p 5 rfl (by kernel_rfl) (by kernel_rfl) (by kernel_rfl) rfl Ev.move ?_
  refine Any.one 4 rfl (by kernel_rfl) ?_
  refine Seq.callvP (first := []) (cap := []) rfl rfl (fun w' hw => hat w') ?_
  refine Seq.nil ⟨(by repeat (first | exact Part.refl _ | exact Part.nil _ | apply Part.here | apply Part.skip)), ?_⟩
  refine Any.call 6 rfl (by kernel_rfl) (by kernel_rfl) (by kernel_rfl) rfl (fun w' hw => hN w' (hL w' _ hw)) ?_
  refine Any.p 7 rfl (by kernel_rfl) (by kernel_rfl) (by kernel_rfl) rfl Ev.move ?_
  refine Any.p 8 rfl (by kernel_rfl) (by kernel_rfl) (by kernel_rfl) rfl Ev.extract ?_
  refine Any.p 9 rfl (by kernel_rfl) (by kernel_rfl) (by kernel_rfl) rfl Ev.extract ?_
  refine Any.p 10 rfl (by kernel_rfl) (by kernel_rfl) (by kernel_rfl) rfl Ev.nilP ?_
  refine Any.one 11 rfl (by kernel_rfl) ?_
  refine Seq.storeTo (cs' := (setc (n : Int)).enc) sz.uint64 (hH := At.z) (hfit := hoff) (hcs := hset _) (k := ?_)
  refine Seq.nil ⟨(by repeat (first | exact Part.refl _ | exact Part.nil _ | apply Part.here | apply Part.skip)), ?_⟩
  refine Any.p 12 rfl (by kernel_rfl) (by kernel_rfl) (by kernel_rfl) rfl Ev.assign ?_
  refine Any.done (by kernel_rfl) ?_
  refine JC.rs ?_
  refine Seq.p rfl Ev.move ?_
  refine Seq.p rfl Ev.assign ?_
  refine Seq.nil ?_
  refine JC.ret ?_
  show retQ _ _ _ _ _ _ _ _
  refine ret1 (hp := Part.refl _) (hpost := ?_)
  refine ⟨_, _, rfl, rfl, ?_⟩
  rw [hput]
  cases hok : okN (strOf F) 18446744073709551615 with
  | true =>
    obtain ⟨h1, h2⟩ := hw1 hok
    rw [h1]
    exact ⟨rfl, rfl⟩
  | false =>
    rw [hw2 hok]
    rfl
set_option maxRecDepth 100000 in
theorem writeCount {w : World} {bx off : Nat} {k : Fk} {f : FuncId} {o : Opn} {z : Int} (hx : Cell w [] ⟨bx, 0, none⟩ (.func (.func f) #[] #[]))
    (hat : ∀ b w', Spec Go.Proofs.Tryd.prog f #[.pointer (some ⟨b, 0, none⟩)] w' [] (fun u _ => u = .pointer (some ⟨b, off, none⟩))) (hget : o.enc[off]? = some (.int .i64 z)) (hz : -9223372036854775808 ≤ z ∧ z ≤ 9223372036854775807) (hwr : writeF k o = ⟨(itoa z).toArray⟩) (hL : LaidT w) :
    Spec Go.Proofs.Tryd.prog 37 #[.agg o.enc.toArray, .pointer (some ⟨bx, 0, none⟩)] w [] (fun u _ => u = .string (writeF k o)) := by
  rw [hwr]
  refine Spec.enter (fn := Go.Proofs.Tryd.f37) (n := 9) [.agg o.enc.toArray, .pointer (some ⟨bx, 0, none⟩)] Go.Proofs.Tryd.func37 (by kernel_rfl) rfl Go.Proofs.Tryd.ntmps37 Go.Proofs.Tryd.results37 rfl (Own.nil _) ?_
  refine JC.rs ?_
  refine Seq.box (cs := [_, _, _, _, _, _, _, _, _, _, _]) (k := ?_); intro b2
  refine Seq.p rfl Ev.assign ?_
  refine Seq.nil ?_
  refine JC.rs ?_
  refine Seq.p rfl (Ev.ldS sc.func_api_Operation_int (Cells.cell hx)) ?_
  refine Seq.callvP (first := []) (cap := []) rfl rfl (fun w' hw => hat _ w') ?_
  refine Seq.p rfl Ev.nilP ?_
  refine Seq.p rfl (Ev.ldB sc.int (hv := hget)) ?_
  refine Seq.callP rfl (fun w' hw => textItoa hz.1 hz.2 (hL.upd hw)) ?_
  refine Seq.p rfl Ev.assign ?_
  refine Seq.nil ?_
  refine JC.ret ?_
  show retQ _ _ _ _ _ _ _ _
  refine ret1 (hp := Part.nil _) (hpost := ?_)
  rfl
set_option maxRecDepth 100000 in
theorem writeLimit {w : World} {bx off : Nat} {k : Fk} {f : FuncId} {o : Opn} {q : Int} (hx : Cell w [] ⟨bx, 0, none⟩ (.func (.func f) #[] #[]))
    (hat : ∀ b w', Spec Go.Proofs.Tryd.prog f #[.pointer (some ⟨b, 5, none⟩)] w' [] (fun u _ => u = .pointer (some ⟨b, off, none⟩))) (hget : o.enc[off]? = some (.int .u64 q)) (hz : 0 ≤ q ∧ q ≤ 18446744073709551615) (hwr : writeF k o = decS q.toNat) (hL : LaidT w) :
    Spec Go.Proofs.Tryd.prog 46 #[.agg o.enc.toArray, .pointer (some ⟨bx, 0, none⟩)] w [] (fun u _ => u = .string (writeF k o)) := by
  rw [hwr]
  obtain ⟨n, rfl⟩ : ∃ n : Nat, q = (n : Int) := ⟨q.toNat, by omega⟩
  rw [Int.toNat_natCast]
  refine Spec.enter (fn := Go.Proofs.Tryd.f46) (n := 10) [.agg o.enc.toArray, .pointer (some ⟨bx, 0, none⟩)] Go.Proofs.Tryd.func46 (by kernel_rfl) rfl Go.Proofs.Tryd.ntmps46 Go.Proofs.Tryd.results46 rfl (Own.nil _) ?_
  refine JC.rs ?_
  refine Seq.box (cs := [_, _, _, _, _, _, _, _, _, _, _]) (k := ?_); intro b2
  refine Seq.p rfl Ev.assign ?_
  refine Seq.nil ?_
  refine JC.rs ?_
  refine Seq.p rfl (Ev.ldS sc.func_api_Limits_uint64 (Cells.cell hx)) ?_
  refine Seq.p rfl (Ev.faB fd.api_Operation_5) ?_
  refine Seq.callvP (first := []) (cap := []) rfl rfl (fun w' hw => hat _ w') ?_
  refine Seq.p rfl Ev.nilP ?_
  refine Seq.p rfl (Ev.ldB sc.uint64 (hv := hget)) ?_
  refine Seq.callP rfl (fun w' hw => conFormat (by omega) (hL.upd hw)) ?_
  refine Seq.p rfl Ev.assign ?_
  refine Seq.nil ?_
  refine JC.ret ?_
  show retQ _ _ _ _ _ _ _ _
  refine ret1 (hp := Part.nil _) (hpost := ?_)
  rfl
/-! a field: its two functions -/
def nameV : List Value := [.func (.func 39) #[] #[], .func (.func 41) #[] #[]]
def memberV : List Value := [.func (.func 42) #[] #[], .func (.func 43) #[] #[]]
def countV (b3 b4 b5 : Nat) : List Value := [.func (.func 35) #[] #[.pointer (some ⟨b4, 0, none⟩), .pointer (some ⟨b5, 0, none⟩), .pointer (some ⟨b3, 0, none⟩)], .func (.func 37) #[] #[.pointer (some ⟨b5, 0, none⟩)]]
def limitV (b : Nat) : List Value := [.func (.func 45) #[] #[.pointer (some ⟨b, 0, none⟩)], .func (.func 46) #[] #[.pointer (some ⟨b, 0, none⟩)]]
theorem mkName {w : World} : Spec Go.Proofs.Tryd.prog 20 #[] w [] (fun u _ => u = .agg nameV.toArray) := by
  refine Spec.enter (fn := Go.Proofs.Tryd.f20) (n := 2) [] Go.Proofs.Tryd.func20 (by kernel_rfl) rfl Go.Proofs.Tryd.ntmps20 Go.Proofs.Tryd.results20 rfl (Own.nil _) ?_
  refine JC.rs ?_
  refine Seq.alloc (cs := [_, _]) (hz := z.console_field) (k := ?_); intro b0
  refine Seq.nil ?_
  refine JC.rs ?_
  refine Seq.p rfl (Ev.buildN [_, _] pl.console_field z.console_field) ?_
  refine Seq.storeN [_, _] sz.console_field (k := ?_)
  refine Seq.nil ?_
  refine JC.ret ?_
  show retQ _ _ _ _ _ _ _ _
  refine retB1 ag.console_field (hp := Part.nil _) (hpost := ?_)
  rfl
theorem mkMember {w : World} : Spec Go.Proofs.Tryd.prog 21 #[] w [] (fun u _ => u = .agg memberV.toArray) := by
  refine Spec.enter (fn := Go.Proofs.Tryd.f21) (n := 2) [] Go.Proofs.Tryd.func21 (by kernel_rfl) rfl Go.Proofs.Tryd.ntmps21 Go.Proofs.Tryd.results21 rfl (Own.nil _) ?_
  refine JC.rs ?_
  refine Seq.alloc (cs := [_, _]) (hz := z.console_field) (k := ?_); intro b0
  refine Seq.nil ?_
  refine JC.rs ?_
  refine Seq.p rfl (Ev.buildN [_, _] pl.console_field z.console_field) ?_
  refine Seq.storeN [_, _] sz.console_field (k := ?_)
  refine Seq.nil ?_
  refine JC.ret ?_
  show retQ _ _ _ _ _ _ _ _
  refine retB1 ag.console_field (hp := Part.nil _) (hpost := ?_)
  rfl
abbrev countL (b3 b4 b5 m : Nat) (f : FuncId) : List Chunk := [.box b5 56 [.func (.func f) #[] #[]], .box b4 23 [.int .u64 (m : Int)], .box b3 23 [.int .u64 0]]
abbrev limitL (b : Nat) (f : FuncId) : List Chunk := [.box b 61 [.func (.func f) #[] #[]]]
theorem mkCount {w : World} {m : Nat} {f : FuncId} : Spec Go.Proofs.Tryd.prog 18 #[.int .u64 0, .int .u64 (m : Int), .func (.func f) #[] #[]] w [] (fun u H' => ∃ b3 b4 b5, u = .agg (countV b3 b4 b5).toArray ∧ H' = countL b3 b4 b5 m f) := by
  refine Spec.enter (fn := Go.Proofs.Tryd.f18) (n := 10) [.int .u64 0, .int .u64 (m : Int), .func (.func f) #[] #[]] Go.Proofs.Tryd.func18 (by kernel_rfl) rfl Go.Proofs.Tryd.ntmps18 Go.Proofs.Tryd.results18 rfl (Own.nil _) ?_
  refine JC.rs ?_
  refine Seq.box (cs := [_]) (k := ?_); intro b3
  refine Seq.box (cs := [_]) (k := ?_); intro b4
  refine Seq.box (cs := [_]) (k := ?_); intro b5
  refine Seq.alloc (cs := [_, _]) (hz := z.console_field) (k := ?_); intro b6
  refine Seq.nil ?_
  refine JC.rs ?_
  refine Seq.p rfl (Ev.as (v' := .func (.func 35) #[] #[.pointer (some ⟨b4, 0, none⟩), .pointer (some ⟨b5, 0, none⟩), .pointer (some ⟨b3, 0, none⟩)]) rfl Ev.func) ?_
  refine Seq.p rfl (Ev.as (v' := .func (.func 37) #[] #[.pointer (some ⟨b5, 0, none⟩)]) rfl Ev.func) ?_
  refine Seq.p rfl (Ev.buildN [_, _] pl.console_field z.console_field) ?_
  refine Seq.storeN [_, _] sz.console_field (k := ?_)
  refine Seq.nil ?_
  refine JC.ret ?_
  show retQ _ _ _ _ _ _ _ _
  refine retB1 ag.console_field (cs := countV b3 b4 b5) (hp := Part.skip (Part.refl _)) (hpost := ?_)
  exact ⟨b3, b4, b5, rfl, rfl⟩
theorem mkLimit {w : World} {f : FuncId} : Spec Go.Proofs.Tryd.prog 23 #[.func (.func f) #[] #[]] w [] (fun u H' => ∃ b1, u = .agg (limitV b1).toArray ∧ H' = limitL b1 f) := by
  refine Spec.enter (fn := Go.Proofs.Tryd.f23) (n := 6) [.func (.func f) #[] #[]] Go.Proofs.Tryd.func23 (by kernel_rfl) rfl Go.Proofs.Tryd.ntmps23 Go.Proofs.Tryd.results23 rfl (Own.nil _) ?_
  refine JC.rs ?_
  refine Seq.box (cs := [_]) (k := ?_); intro b1
  refine Seq.alloc (cs := [_, _]) (hz := z.console_field) (k := ?_); intro b2
  refine Seq.nil ?_
  refine JC.rs ?_
  refine Seq.p rfl (Ev.as (v' := .func (.func 45) #[] #[.pointer (some ⟨b1, 0, none⟩)]) rfl Ev.func) ?_
  refine Seq.p rfl (Ev.as (v' := .func (.func 46) #[] #[.pointer (some ⟨b1, 0, none⟩)]) rfl Ev.func) ?_
  refine Seq.p rfl (Ev.buildN [_, _] pl.console_field z.console_field) ?_
  refine Seq.storeN [_, _] sz.console_field (k := ?_)
  refine Seq.nil ?_
  refine JC.ret ?_
  show retQ _ _ _ _ _ _ _ _
  refine retB1 ag.console_field (cs := limitV b1) (hp := Part.skip (Part.refl _)) (hpost := ?_)
  exact ⟨b1, rfl, rfl⟩
end Go.Rx
/- Operators' lines: the fields of a word, by the program. -/
namespace Go.Rx
open Go Go.RowKit Go.Lib Go.Proofs.YtonoamdonmbkpaaDoor
set_option linter.unusedVariables false
set_option linter.unusedSimpArgs false
section
variable {P : Program} {n : Nat} {w0 : World} {Cs H : List Chunk} {e : Env} {Q : Exit → Env → List Chunk → Prop} {x y : Code}
theorem JC.cTh {c : Operand} {p : Prop} [Decidable p] (hp : p) (hc : Look e c (.bool (decide p)) := by repeat (first | exact Look.here | apply Look.there (hne := rfl) | exact Look.const | apply Look.mix rfl | exact Look.arg0 | apply Look.args | exact Look.func)) (h : JC P n w0 Cs x H e Q) : JC P n w0 Cs (.cond c x y) H e Q := JC.c hc (fun _ => h) (fun hn => absurd hp hn)
theorem JC.cbTh {c : Operand} {b : Bool} (hp : b = true) (hc : Look e c (.bool b) := by repeat (first | exact Look.here | apply Look.there (hne := rfl) | exact Look.const | apply Look.mix rfl | exact Look.arg0 | apply Look.args | exact Look.func)) (h : JC P n w0 Cs x H e Q) : JC P n w0 Cs (.cond c x y) H e Q := JC.cb hc (fun _ => h) (fun hn => by rw [hp] at hn; cases hn)
end
def fldEnc (p : Value × Value) : List Value := [p.1, p.2]
structure FieldsAt (L : List Chunk) (v : Value) (ks : List Fk) (ps : List (Value × Value)) : Prop where
  rd : ∀ w, Own w L → RSl fldEnc 2 w [] v ps
  len : ps.length = ks.length
  ok : ∀ j, j < ks.length → ReadsAs L ks[j]! ps[j]!.1 ∧ WritesAs L ks[j]! ps[j]!.2
theorem okName {L : List Chunk} : ReadsAs L .name (nameV[0]!) ∧ WritesAs L .name (nameV[1]!) :=
  ⟨⟨_, [], rfl, fun w b o F hO hL hB hl => readName (own_head hO) hB hl⟩, ⟨_, [], rfl, fun w o hO hL ho => writeName⟩⟩
theorem okMember {L : List Chunk} : ReadsAs L .member (memberV[0]!) ∧ WritesAs L .member (memberV[1]!) :=
  ⟨⟨_, [], rfl, fun w b o F hO hL hB hl => readMember (own_head hO) hL hB hl⟩, ⟨_, [], rfl, fun w o hO hL ho => writeMember hL ho⟩⟩
theorem okPrice {b3 b4 b5 : Nat} : ReadsAs (countL b3 b4 b5 262143 19) .price ((countV b3 b4 b5)[0]!) ∧ WritesAs (countL b3 b4 b5 262143 19) .price ((countV b3 b4 b5)[1]!) :=
  ⟨⟨_, [.pointer (some ⟨b4, 0, none⟩), .pointer (some ⟨b5, 0, none⟩), .pointer (some ⟨b3, 0, none⟩)], rfl, fun w b o F hO hL hB hl =>
    readCount (m := 262143) (off := 3) (setc := fun z => { o with price := z }) (own_head hO) (own_cell hO (At.s (At.s At.z)) rfl) (own_cell hO (At.s At.z) rfl) (own_cell hO At.z rfl) (fun w' => at1) (by omega) (fun z => rfl) rfl (by omega) hL hB hl⟩,
   ⟨_, [.pointer (some ⟨b5, 0, none⟩)], rfl, fun w o hO hL ho => writeCount (off := 3) (z := o.price) (own_cell0 hO At.z rfl) (fun b w' => at1) rfl ho.price rfl hL⟩⟩
theorem okCount {b3 b4 b5 : Nat} : ReadsAs (countL b3 b4 b5 999999999 22) .count ((countV b3 b4 b5)[0]!) ∧ WritesAs (countL b3 b4 b5 999999999 22) .count ((countV b3 b4 b5)[1]!) :=
  ⟨⟨_, [.pointer (some ⟨b4, 0, none⟩), .pointer (some ⟨b5, 0, none⟩), .pointer (some ⟨b3, 0, none⟩)], rfl, fun w b o F hO hL hB hl =>
    readCount (m := 999999999) (off := 4) (setc := fun z => { o with count := z }) (own_head hO) (own_cell hO (At.s (At.s At.z)) rfl) (own_cell hO (At.s At.z) rfl) (own_cell hO At.z rfl) (fun w' => at2) (by omega) (fun z => rfl) rfl (by omega) hL hB hl⟩,
   ⟨_, [.pointer (some ⟨b5, 0, none⟩)], rfl, fun w o hO hL ho => writeCount (off := 4) (z := o.count) (own_cell0 hO At.z rfl) (fun b w' => at2) rfl ho.count rfl hL⟩⟩
theorem okLcount {b3 b4 b5 : Nat} : ReadsAs (countL b3 b4 b5 999999999 26) .lcount ((countV b3 b4 b5)[0]!) ∧ WritesAs (countL b3 b4 b5 999999999 26) .lcount ((countV b3 b4 b5)[1]!) :=
  ⟨⟨_, [.pointer (some ⟨b4, 0, none⟩), .pointer (some ⟨b5, 0, none⟩), .pointer (some ⟨b3, 0, none⟩)], rfl, fun w b o F hO hL hB hl =>
    readCount (m := 999999999) (off := 7) (setc := fun z => { o with lcount := z }) (own_head hO) (own_cell hO (At.s (At.s At.z)) rfl) (own_cell hO (At.s At.z) rfl) (own_cell hO At.z rfl) (fun w' => at5) (by omega) (fun z => rfl) rfl (by omega) hL hB hl⟩,
   ⟨_, [.pointer (some ⟨b5, 0, none⟩)], rfl, fun w o hO hL ho => writeCount (off := 7) (z := o.lcount) (own_cell0 hO At.z rfl) (fun b w' => at5) rfl ho.lcount rfl hL⟩⟩
theorem okOrd {bx : Nat} : ReadsAs (limitL bx 24) .ord ((limitV bx)[0]!) ∧ WritesAs (limitL bx 24) .ord ((limitV bx)[1]!) :=
  ⟨⟨_, [.pointer (some ⟨bx, 0, none⟩)], rfl, fun w b o F hO hL hB hl =>
    readLimit (off := 5) (setc := fun z => { o with ord := z, has := true }) (own_head hO) (own_cell hO At.z rfl) (fun w' => at3) (by omega) (fun z => rfl) rfl hL hB hl⟩,
   ⟨_, [.pointer (some ⟨bx, 0, none⟩)], rfl, fun w o hO hL ho => writeLimit (off := 5) (q := o.ord) (own_cell0 hO At.z rfl) (fun b w' => at3) rfl ho.ord rfl hL⟩⟩
theorem okOpn {bx : Nat} : ReadsAs (limitL bx 25) .opn ((limitV bx)[0]!) ∧ WritesAs (limitL bx 25) .opn ((limitV bx)[1]!) :=
  ⟨⟨_, [.pointer (some ⟨bx, 0, none⟩)], rfl, fun w b o F hO hL hB hl =>
    readLimit (off := 6) (setc := fun z => { o with opn := z, has := true }) (own_head hO) (own_cell hO At.z rfl) (fun w' => at4) (by omega) (fun z => rfl) rfl hL hB hl⟩,
   ⟨_, [.pointer (some ⟨bx, 0, none⟩)], rfl, fun w o hO hL ho => writeLimit (off := 6) (q := o.opn) (own_cell0 hO At.z rfl) (fun b w' => at4) rfl ho.opn rfl hL⟩⟩
theorem okPos {bx : Nat} : ReadsAs (limitL bx 27) .pos ((limitV bx)[0]!) ∧ WritesAs (limitL bx 27) .pos ((limitV bx)[1]!) :=
  ⟨⟨_, [.pointer (some ⟨bx, 0, none⟩)], rfl, fun w b o F hO hL hB hl =>
    readLimit (off := 8) (setc := fun z => { o with pos := z, has := true }) (own_head hO) (own_cell hO At.z rfl) (fun w' => at6) (by omega) (fun z => rfl) rfl hL hB hl⟩,
   ⟨_, [.pointer (some ⟨bx, 0, none⟩)], rfl, fun w o hO hL ho => writeLimit (off := 8) (q := o.pos) (own_cell0 hO At.z rfl) (fun b w' => at6) rfl ho.pos rfl hL⟩⟩
theorem okWorth {bx : Nat} : ReadsAs (limitL bx 28) .worth ((limitV bx)[0]!) ∧ WritesAs (limitL bx 28) .worth ((limitV bx)[1]!) :=
  ⟨⟨_, [.pointer (some ⟨bx, 0, none⟩)], rfl, fun w b o F hO hL hB hl =>
    readLimit (off := 9) (setc := fun z => { o with worth := z, has := true }) (own_head hO) (own_cell hO At.z rfl) (fun w' => at7) (by omega) (fun z => rfl) rfl hL hB hl⟩,
   ⟨_, [.pointer (some ⟨bx, 0, none⟩)], rfl, fun w o hO hL ho => writeLimit (off := 9) (q := o.worth) (own_cell0 hO At.z rfl) (fun b w' => at7) rfl ho.worth rfl hL⟩⟩
theorem box_rows {w : World} {L : List Chunk} {i b n : Nat} {t : TypeId} {ps : List (Value × Value)} (hn : ps.length = n) (hs : n ≤ 6) (hi : At L i (.box b t (ps.flatMap fldEnc))) (hO : Own w L) : RSl fldEnc 2 w [] (.slice (some ⟨b, 0, none⟩) n n) ps := by
  subst hn
  have hok : (Chunk.box b t (ps.flatMap fldEnc)).ok w := hO.ok _ (List.mem_of_getElem? hi.eq)
  refine ⟨⟨some ⟨b, 0, none⟩, ps.length, rfl, Nat.le_refl _, (fun h => by cases h)⟩, by omega, fun x _ => rfl, ?_⟩
  intro j hj k u hu
  refine ⟨?_, by simp⟩
  have hc := cell_of_row w b (j * 2 + k) (ps.flatMap fldEnc).toArray t (0, 0) hok
  have e : ((sbase (.slice (some ⟨b, 0, none⟩) ps.length ps.length)).add (j * 2 + k)) = ⟨b, j * 2 + k, none⟩ := by
    show Addr.add ⟨b, 0, none⟩ (j * 2 + k) = _
    by_cases h : j * 2 + k = 0
    · rw [h]; rfl
    · simp [Addr.add, h]
      omega
  rw [e, hc]
  have hlen : ∀ (l : List (Value × Value)) (j k : Nat) (u : Value), j < l.length → (fldEnc l[j]!)[k]? = some u → (l.flatMap fldEnc)[j * 2 + k]? = some u := by
    intro l
    induction l with
    | nil => intro j k u hj; simp at hj
    | cons a l ih =>
      intro j k u hj hu
      have hk : k < 2 := by have := (List.getElem?_eq_some_iff.1 hu).1; simpa [fldEnc] using this
      rw [List.flatMap_cons]
      cases j with
      | zero =>
        rw [List.getElem?_append_left (by simp [fldEnc]; omega)]
        simpa using hu
      | succ j =>
        rw [List.getElem?_append_right (by simp [fldEnc]; omega)]
        have e2 : (j + 1) * 2 + k - (fldEnc a).length = j * 2 + k := by simp [fldEnc]; omega
        rw [e2]
        exact ih j k u (by simpa using hj) (by simpa using hu)
  have := hlen ps j k u hj hu
  simpa using this
theorem fields_nil : FieldsAt [] (.slice none 0 0) [] [] := ⟨fun w _ => RSl.empty _ _ w [], rfl, fun j hj => absurd hj (Nat.not_lt_zero j)⟩
theorem fields_name {b : Nat} : FieldsAt [.box b 43 nameV] (.slice (some ⟨b, 0, none⟩) 1 1) [.name] [(nameV[0]!, nameV[1]!)] :=
  ⟨fun w hO => box_rows rfl (by omega) At.z hO, rfl, fun j hj => by
    obtain rfl : j = 0 := by simpa using hj
    exact okName⟩
theorem fields_member {b : Nat} : FieldsAt [.box b 43 memberV] (.slice (some ⟨b, 0, none⟩) 1 1) [.member] [(memberV[0]!, memberV[1]!)] :=
  ⟨fun w hO => box_rows rfl (by omega) At.z hO, rfl, fun j hj => by
    obtain rfl : j = 0 := by simpa using hj
    exact okMember⟩
theorem fields_price {b b3 b4 b5 : Nat} : FieldsAt (.box b 43 (nameV ++ countV b3 b4 b5) :: countL b3 b4 b5 262143 19) (.slice (some ⟨b, 0, none⟩) 2 2) [.name, .price] [(nameV[0]!, nameV[1]!), ((countV b3 b4 b5)[0]!, (countV b3 b4 b5)[1]!)] :=
  ⟨fun w hO => box_rows rfl (by omega) At.z hO, rfl, fun j hj => by
    have hj2 : j < 2 := hj
    rcases (by omega : j = 0 ∨ j = 1) with rfl | rfl
    · exact okName
    · exact ⟨okPrice.1.part (Part.skip (Part.refl _)), okPrice.2.part (Part.skip (Part.refl _))⟩⟩
theorem fields_count {b b3 b4 b5 : Nat} : FieldsAt (.box b 43 (nameV ++ countV b3 b4 b5) :: countL b3 b4 b5 999999999 22) (.slice (some ⟨b, 0, none⟩) 2 2) [.name, .count] [(nameV[0]!, nameV[1]!), ((countV b3 b4 b5)[0]!, (countV b3 b4 b5)[1]!)] :=
  ⟨fun w hO => box_rows rfl (by omega) At.z hO, rfl, fun j hj => by
    have hj2 : j < 2 := hj
    rcases (by omega : j = 0 ∨ j = 1) with rfl | rfl
    · exact okName
    · exact ⟨okCount.1.part (Part.skip (Part.refl _)), okCount.2.part (Part.skip (Part.refl _))⟩⟩
abbrev limitsV (b1 b2 c3 c4 c5 b6 b7 : Nat) : List Value := memberV ++ limitV b1 ++ limitV b2 ++ countV c3 c4 c5 ++ limitV b6 ++ limitV b7
abbrev limitsL (b b1 b2 c3 c4 c5 b6 b7 : Nat) : List Chunk := [.box b 43 (limitsV b1 b2 c3 c4 c5 b6 b7)] ++ (limitL b7 28 ++ (limitL b6 27 ++ (countL c3 c4 c5 999999999 26 ++ (limitL b2 25 ++ limitL b1 24))))
theorem fields_limits {b b1 b2 c3 c4 c5 b6 b7 : Nat} : FieldsAt (limitsL b b1 b2 c3 c4 c5 b6 b7) (.slice (some ⟨b, 0, none⟩) 6 6) limK
    [(memberV[0]!, memberV[1]!), ((limitV b1)[0]!, (limitV b1)[1]!), ((limitV b2)[0]!, (limitV b2)[1]!), ((countV c3 c4 c5)[0]!, (countV c3 c4 c5)[1]!), ((limitV b6)[0]!, (limitV b6)[1]!), ((limitV b7)[0]!, (limitV b7)[1]!)] :=
  ⟨fun w hO => box_rows rfl (by omega) At.z hO, rfl, fun j hj => by
    have hj2 : j < 6 := hj
    have hp : ∀ c ∈ [(limitL b7 28), (limitL b6 27), (countL c3 c4 c5 999999999 26), (limitL b2 25), (limitL b1 24)], Part c (limitsL b b1 b2 c3 c4 c5 b6 b7) := by
      intro c hc
      simp only [List.mem_cons, List.not_mem_nil, or_false] at hc
      rcases hc with rfl | rfl | rfl | rfl | rfl <;> (repeat (first | exact Part.refl _ | exact Part.nil _ | apply Part.here | apply Part.skip))
    rcases (by omega : j = 0 ∨ j = 1 ∨ j = 2 ∨ j = 3 ∨ j = 4 ∨ j = 5) with rfl | rfl | rfl | rfl | rfl | rfl
    · exact okMember
    · exact ⟨okOrd.1.part (hp _ (by simp)), okOrd.2.part (hp _ (by simp))⟩
    · exact ⟨okOpn.1.part (hp _ (by simp)), okOpn.2.part (hp _ (by simp))⟩
    · exact ⟨okLcount.1.part (hp _ (by simp)), okLcount.2.part (hp _ (by simp))⟩
    · exact ⟨okPos.1.part (hp _ (by simp)), okPos.2.part (hp _ (by simp))⟩
    · exact ⟨okWorth.1.part (hp _ (by simp)), okWorth.2.part (hp _ (by simp))⟩⟩
set_option maxHeartbeats 4000000 in
set_option maxRecDepth 100000 in
theorem conFields {w : World} {s : ByteArray} : Spec Go.Proofs.Tryd.prog 11 #[.string s] w []
    (fun u H' => (∃ ks v ps, shapeF s = some ks ∧ u = .tuple #[v, .bool true] ∧ FieldsAt H' v ks ps) ∨ (shapeF s = none ∧ u = .tuple #[.slice none 0 0, .bool false])) := by
  refine Spec.enter (fn := Go.Proofs.Tryd.f11) (n := 42) [.string s] Go.Proofs.Tryd.func11 (by kernel_rfl) rfl Go.Proofs.Tryd.ntmps11 Go.Proofs.Tryd.results11 rfl (Own.nil _) ?_
  refine JC.rs ?_
  refine Seq.p rfl Ev.assign ?_
  refine Seq.p rfl Ev.assign ?_
  refine Seq.nil ?_
  refine JC.rs ?_
  refine Seq.call rfl (fun w' hw => mkCount (m := 262143)) (Gs := []) (F := _) (by exact List.Perm.refl _) ?_
  rintro _ _ ⟨c3, c4, c5, rfl, rfl⟩
  simp only [List.cons_append, List.nil_append]
  refine Seq.alloc (cs := [_, _]) (hz := z.console_field) (k := ?_); intro b4
  refine Seq.storeTo (cs' := countV c3 c4 c5) sz.console_field (hH := At.z) (hfit := Nat.le_of_ble_eq_true rfl) (hcs := rfl) (k := ?_)
  refine Seq.nil ?_
  refine JC.seq ?_
  refine JC.rs ?_
  refine Seq.p rfl Ev.move ?_
  refine Seq.nil ?_
  refine JC.blk ?_
  refine JC.seq ?_
  refine JC.rs ?_
  refine Seq.p rfl Ev.eqStr ?_
  refine Seq.p rfl Ev.assign ?_
  refine Seq.nil ?_
  first | refine JC.c (ht := fun c7 => ?_) (hf := fun c7 => ?_) | refine JC.cb (ht := fun c7 => ?_) (hf := fun c7 => ?_)
  · -- then_t7
    refine JC.skip ?_
    first | refine JC.cTh c7 (h := ?_) | refine JC.cbTh c7 (h := ?_)
    refine JC.rs ?_
    refine Seq.callP rfl (fun w hw => mkName) ?_
    refine Seq.buildSlN nameV (hsl := sl.sl_console_field) (hz := z.console_field) (k := ?_); intro b14
    refine Seq.p rfl Ev.assign ?_
    refine Seq.p rfl Ev.assign ?_
    refine Seq.nil ?_
    refine JC.ret ?_
    show retQ _ _ _ _ _ _ _ _
    refine ret2 (H' := [.box b14 43 nameV]) (hp := Part.here (Part.nil _)) (hpost := ?_)
    exact .inl ⟨[.name], _, _, by unfold shapeF; simp [*], rfl, fields_name⟩
  · -- else_t7
    refine JC.rs ?_
    refine Seq.p rfl Ev.eqStr ?_
    refine Seq.p rfl Ev.assign ?_
    refine Seq.nil ?_
    first | refine JC.c (ht := fun c7 => ?_) (hf := fun c7 => ?_) | refine JC.cb (ht := fun c7 => ?_) (hf := fun c7 => ?_)
    · -- then_t7
      refine JC.skip ?_
      first | refine JC.cTh c7 (h := ?_) | refine JC.cbTh c7 (h := ?_)
      refine JC.rs ?_
      refine Seq.callP rfl (fun w hw => mkName) ?_
      refine Seq.buildSlN nameV (hsl := sl.sl_console_field) (hz := z.console_field) (k := ?_); intro b14
      refine Seq.p rfl Ev.assign ?_
      refine Seq.p rfl Ev.assign ?_
      refine Seq.nil ?_
      refine JC.ret ?_
      show retQ _ _ _ _ _ _ _ _
      refine ret2 (H' := [.box b14 43 nameV]) (hp := Part.here (Part.nil _)) (hpost := ?_)
      exact .inl ⟨[.name], _, _, by unfold shapeF; simp [*], rfl, fields_name⟩
    · -- else_t7
      refine JC.rs ?_
      refine Seq.p rfl Ev.eqStr ?_
      refine Seq.p rfl Ev.assign ?_
      refine Seq.nil ?_
      first | refine JC.c (ht := fun c7 => ?_) (hf := fun c7 => ?_) | refine JC.cb (ht := fun c7 => ?_) (hf := fun c7 => ?_)
      · -- then_t7
        refine JC.skip ?_
        first | refine JC.cTh c7 (h := ?_) | refine JC.cbTh c7 (h := ?_)
        refine JC.rs ?_
        refine Seq.callP rfl (fun w hw => mkName) ?_
        refine Seq.buildSlN nameV (hsl := sl.sl_console_field) (hz := z.console_field) (k := ?_); intro b14
        refine Seq.p rfl Ev.assign ?_
        refine Seq.p rfl Ev.assign ?_
        refine Seq.nil ?_
        refine JC.ret ?_
        show retQ _ _ _ _ _ _ _ _
        refine ret2 (H' := [.box b14 43 nameV]) (hp := Part.here (Part.nil _)) (hpost := ?_)
        exact .inl ⟨[.name], _, _, by unfold shapeF; simp [*], rfl, fields_name⟩
      · -- else_t7
        refine JC.rs ?_
        refine Seq.p rfl Ev.eqStr ?_
        refine Seq.p rfl Ev.assign ?_
        refine Seq.nil ?_
        first | refine JC.c (ht := fun c7 => ?_) (hf := fun c7 => ?_) | refine JC.cb (ht := fun c7 => ?_) (hf := fun c7 => ?_)
        · -- then_t7
          refine JC.skip ?_
          first | refine JC.cTh c7 (h := ?_) | refine JC.cbTh c7 (h := ?_)
          refine JC.rs ?_
          refine Seq.callP rfl (fun w hw => mkName) ?_
          refine Seq.buildSlN nameV (hsl := sl.sl_console_field) (hz := z.console_field) (k := ?_); intro b14
          refine Seq.p rfl Ev.assign ?_
          refine Seq.p rfl Ev.assign ?_
          refine Seq.nil ?_
          refine JC.ret ?_
          show retQ _ _ _ _ _ _ _ _
          refine ret2 (H' := [.box b14 43 nameV]) (hp := Part.here (Part.nil _)) (hpost := ?_)
          exact .inl ⟨[.name], _, _, by unfold shapeF; simp [*], rfl, fields_name⟩
        · -- else_t7
          refine JC.reg ?_
          refine Seq.p rfl Ev.eqStr ?_
          refine Seq.p rfl Ev.assign ?_
          refine Seq.nil ?_
          first | refine JC.c (ht := fun c7 => ?_) (hf := fun c7 => ?_) | refine JC.cb (ht := fun c7 => ?_) (hf := fun c7 => ?_)
          · -- then_t7
            refine JC.rs ?_
            refine Seq.callP rfl (fun w hw => mkName) ?_
            refine Seq.buildSlN nameV (hsl := sl.sl_console_field) (hz := z.console_field) (k := ?_); intro b14
            refine Seq.p rfl Ev.assign ?_
            refine Seq.p rfl Ev.assign ?_
            refine Seq.nil ?_
            refine JC.ret ?_
            show retQ _ _ _ _ _ _ _ _
            refine ret2 (H' := [.box b14 43 nameV]) (hp := Part.here (Part.nil _)) (hpost := ?_)
            exact .inl ⟨[.name], _, _, by unfold shapeF; simp [*], rfl, fields_name⟩
          · -- else_t7
            refine JC.rs ?_
            refine Seq.p rfl Ev.eqStr ?_
            refine Seq.p rfl Ev.assign ?_
            refine Seq.nil ?_
            first | refine JC.c (ht := fun c15 => ?_) (hf := fun c15 => ?_) | refine JC.cb (ht := fun c15 => ?_) (hf := fun c15 => ?_)
            · -- then_t15
              refine JC.as mixed ?_
              refine Any.call 0 rfl (by kernel_rfl) (by kernel_rfl) (by kernel_rfl) rfl (fun w hw => mkName) ?_
              refine Any.p 1 rfl (by kernel_rfl) (by kernel_rfl) (by kernel_rfl) rfl (Ev.ldBA (cs := countV c3 c4 c5) ag.console_field) ?_
              refine Any.one 2 rfl (by kernel_rfl) ?_
              refine Seq.buildSlN (nameV ++ countV c3 c4 c5) (hsl := sl.sl_console_field) (hz := z.console_field) (k := ?_); intro b19
              refine Seq.nil ⟨(by repeat (first | exact Part.refl _ | exact Part.nil _ | apply Part.here | apply Part.skip)), ?_⟩
              refine Any.p 3 rfl (by kernel_rfl) (by kernel_rfl) (by kernel_rfl) rfl Ev.assign ?_
              refine Any.p 4 rfl (by kernel_rfl) (by kernel_rfl) (by kernel_rfl) rfl Ev.assign ?_
              refine Any.done (by kernel_rfl) ?_
              refine JC.ret ?_
              show retQ _ _ _ _ _ _ _ _
              refine ret2 (hp := Part.here (Part.skip (Part.refl _))) (hpost := ?_)
              exact .inl ⟨[.name, .price], _, _, by unfold shapeF; simp [*], rfl, fields_price⟩
            · -- else_t15
              refine JC.seq ?_
              refine JC.rs ?_
              refine Seq.p rfl Ev.eqStr ?_
              refine Seq.p rfl Ev.assign ?_
              refine Seq.nil ?_
              first | refine JC.c (ht := fun c20 => ?_) (hf := fun c20 => ?_) | refine JC.cb (ht := fun c20 => ?_) (hf := fun c20 => ?_)
              · -- then_t20
                refine JC.skip ?_
                first | refine JC.cTh c20 (h := ?_) | refine JC.cbTh c20 (h := ?_)
                refine JC.rs ?_
                refine Seq.callP rfl (fun w hw => mkMember) ?_
                refine Seq.buildSlN memberV (hsl := sl.sl_console_field) (hz := z.console_field) (k := ?_); intro b24
                refine Seq.p rfl Ev.assign ?_
                refine Seq.p rfl Ev.assign ?_
                refine Seq.nil ?_
                refine JC.ret ?_
                show retQ _ _ _ _ _ _ _ _
                refine ret2 (hp := Part.here (Part.nil _)) (hpost := ?_)
                exact .inl ⟨[.member], _, _, by unfold shapeF; simp [*], rfl, fields_member⟩
              · -- else_t20
                refine JC.reg ?_
                refine Seq.p rfl Ev.eqStr ?_
                refine Seq.p rfl Ev.assign ?_
                refine Seq.nil ?_
                first | refine JC.c (ht := fun c20 => ?_) (hf := fun c20 => ?_) | refine JC.cb (ht := fun c20 => ?_) (hf := fun c20 => ?_)
                · -- then_t20
                  refine JC.rs ?_
                  refine Seq.callP rfl (fun w hw => mkMember) ?_
                  refine Seq.buildSlN memberV (hsl := sl.sl_console_field) (hz := z.console_field) (k := ?_); intro b24
                  refine Seq.p rfl Ev.assign ?_
                  refine Seq.p rfl Ev.assign ?_
                  refine Seq.nil ?_
                  refine JC.ret ?_
                  show retQ _ _ _ _ _ _ _ _
                  refine ret2 (hp := Part.here (Part.nil _)) (hpost := ?_)
                  exact .inl ⟨[.member], _, _, by unfold shapeF; simp [*], rfl, fields_member⟩
                · -- else_t20
                  refine JC.rs ?_
                  refine Seq.p rfl Ev.eqStr ?_
                  refine Seq.p rfl Ev.assign ?_
                  refine Seq.nil ?_
                  first | refine JC.c (ht := fun c25 => ?_) (hf := fun c25 => ?_) | refine JC.cb (ht := fun c25 => ?_) (hf := fun c25 => ?_)
                  · -- then_t25
                    refine JC.rs ?_
                    refine Seq.callP rfl (fun w hw => mkName) ?_
                    refine Seq.call rfl (fun w' hw => mkCount (m := 999999999)) (Gs := []) (F := _) (by exact List.Perm.refl _) ?_
                    rintro _ _ ⟨d3, d4, d5, rfl, rfl⟩
                    simp only [List.cons_append, List.nil_append]
                    refine Seq.buildSlN (nameV ++ countV d3 d4 d5) (hsl := sl.sl_console_field) (hz := z.console_field) (k := ?_); intro b29
                    refine Seq.p rfl Ev.assign ?_
                    refine Seq.p rfl Ev.assign ?_
                    refine Seq.nil ?_
                    refine JC.ret ?_
                    show retQ _ _ _ _ _ _ _ _
                    refine ret2 (hp := Part.here (Part.here (Part.here (Part.here (Part.nil _))))) (hpost := ?_)
                    exact .inl ⟨[.name, .count], _, _, by unfold shapeF; simp [*], rfl, fields_count⟩
                  · -- else_t25
                    refine JC.rs ?_
                    refine Seq.p rfl Ev.eqStr ?_
                    refine Seq.p rfl Ev.assign ?_
                    refine Seq.nil ?_
                    first | refine JC.c (ht := fun c30 => ?_) (hf := fun c30 => ?_) | refine JC.cb (ht := fun c30 => ?_) (hf := fun c30 => ?_)
                    · -- then_t30
                      refine JC.rs ?_
                      refine Seq.callP rfl (fun w hw => mkMember) ?_
                      refine Seq.call rfl (fun w' hw => mkLimit) (Gs := []) (F := _) (by exact List.Perm.refl _) ?_
                      rintro _ _ ⟨e1, rfl, rfl⟩
                      simp only [List.cons_append, List.nil_append]
                      refine Seq.call rfl (fun w' hw => mkLimit) (Gs := []) (F := _) (by exact List.Perm.refl _) ?_
                      rintro _ _ ⟨e2, rfl, rfl⟩
                      simp only [List.cons_append, List.nil_append]
                      refine Seq.call rfl (fun w' hw => mkCount (m := 999999999)) (Gs := []) (F := _) (by exact List.Perm.refl _) ?_
                      rintro _ _ ⟨d3, d4, d5, rfl, rfl⟩
                      simp only [List.cons_append, List.nil_append]
                      refine Seq.call rfl (fun w' hw => mkLimit) (Gs := []) (F := _) (by exact List.Perm.refl _) ?_
                      rintro _ _ ⟨e6, rfl, rfl⟩
                      simp only [List.cons_append, List.nil_append]
                      refine Seq.call rfl (fun w' hw => mkLimit) (Gs := []) (F := _) (by exact List.Perm.refl _) ?_
                      rintro _ _ ⟨e7, rfl, rfl⟩
                      simp only [List.cons_append, List.nil_append]
                      refine Seq.buildSlS (limitsV e1 e2 d3 d4 d5 e6 e7) (hsl := sl.sl_console_field) (hz := z.console_field) (k := ?_); intro b38
                      refine Seq.p rfl Ev.assign ?_
                      refine Seq.p rfl Ev.assign ?_
                      refine Seq.nil ?_
                      refine JC.ret ?_
                      show retQ _ _ _ _ _ _ _ _
                      refine ret2 (H' := limitsL b38 e1 e2 d3 d4 d5 e6 e7) (hp := Part.here (Part.here (Part.here (Part.here (Part.here (Part.here (Part.here (Part.here (Part.nil _))))))))) (hpost := ?_)
                      exact .inl ⟨limK, _, _, by unfold shapeF; simp [*], rfl, fields_limits⟩
                    · -- else_t30
                      refine JC.seq ?_
                      refine JC.rs ?_
                      refine Seq.p rfl Ev.eqStr ?_
                      refine Seq.p rfl Ev.assign ?_
                      refine Seq.nil ?_
                      first | refine JC.c (ht := fun c39 => ?_) (hf := fun c39 => ?_) | refine JC.cb (ht := fun c39 => ?_) (hf := fun c39 => ?_)
                      · -- then_t39
                        refine JC.skip ?_
                        first | refine JC.cTh c39 (h := ?_) | refine JC.cbTh c39 (h := ?_)
                        refine JC.rs ?_
                        refine Seq.p rfl Ev.assign ?_
                        refine Seq.p rfl Ev.assign ?_
                        refine Seq.nil ?_
                        refine JC.ret ?_
                        show retQ _ _ _ _ _ _ _ _
                        refine ret2 (hp := Part.nil _) (hpost := ?_)
                        exact .inl ⟨[], _, _, by unfold shapeF; simp [*], rfl, fields_nil⟩
                      · -- else_t39
                        refine JC.reg ?_
                        refine Seq.p rfl Ev.eqStr ?_
                        refine Seq.p rfl Ev.assign ?_
                        refine Seq.nil ?_
                        first | refine JC.c (ht := fun c39 => ?_) (hf := fun c39 => ?_) | refine JC.cb (ht := fun c39 => ?_) (hf := fun c39 => ?_)
                        · -- then_t39
                          refine JC.rs ?_
                          refine Seq.p rfl Ev.assign ?_
                          refine Seq.p rfl Ev.assign ?_
                          refine Seq.nil ?_
                          refine JC.ret ?_
                          show retQ _ _ _ _ _ _ _ _
                          refine ret2 (hp := Part.nil _) (hpost := ?_)
                          exact .inl ⟨[], _, _, by unfold shapeF; simp [*], rfl, fields_nil⟩
                        · -- else_t39
                          refine JC.skip ?_
                          refine JC.rs ?_
                          refine Seq.p rfl Ev.assign ?_
                          refine Seq.p rfl Ev.assign ?_
                          refine Seq.nil ?_
                          refine JC.ret ?_
                          show retQ _ _ _ _ _ _ _ _
                          refine ret2 (hp := Part.nil _) (hpost := ?_)
                          exact .inr ⟨by unfold shapeF; simp [*], rfl⟩
end Go.Rx
/- Operators' lines read by the program. -/
namespace Go.Rx
open Go Go.RowKit Go.Lib Go.Proofs.YtonoamdonmbkpaaDoor
set_option linter.unusedVariables false
set_option linter.unusedSimpArgs false
def parseV (p : Opn × Int × Int) : Value := .tuple #[.agg p.1.enc.toArray, .int .i64 p.2.1, .int .i64 p.2.2]
theorem cutV_eq {c : UInt8} {F : List Int} : cutV c F = .tuple #[.string (strOf (F.take (firstF c.toNat F))), .string (strOf ((F.drop (firstF c.toNat F)).drop 1)), .bool (decide (0 < (F.drop (firstF c.toNat F)).length))] := by
  have hle := firstF_le c.toNat F
  unfold cutV
  rw [List.drop_drop, List.length_drop]
  split
  · rename_i h
    rw [decide_eq_true (by omega)]
  · rename_i h
    have e : firstF c.toNat F = F.length := by omega
    rw [e, List.take_length, List.drop_eq_nil_of_le (by omega), decide_eq_false (by omega)]
    rfl
theorem conCut {w : World} {F : List Int} (hB : isBytes F) (hl : F.length ≤ 281474976710656) : Spec Go.Proofs.Tryd.prog 10 #[.string (strOf F), .string ⟨#[32]⟩] w [] (fun u _ => u = .tuple #[.string (strOf (F.take (firstF 32 F))), .string (strOf ((F.drop (firstF 32 F)).drop 1)), .bool (decide (0 < (F.drop (firstF 32 F)).length))]) := by
  have h := textCut (w := w) (c := 32) hB hl
  rw [cutV_eq] at h
  exact h
theorem conWrong {w : World} {at_ : Int} : Spec Go.Proofs.Tryd.prog 9 #[.int .i64 at_] w [] (fun u _ => u = .tuple #[.agg op0.enc.toArray, .int .i64 at_, .int .i64 270]) := by
  refine Spec.enter (fn := Go.Proofs.Tryd.f9) (n := 7) [.int .i64 at_] Go.Proofs.Tryd.func9 (by kernel_rfl) rfl Go.Proofs.Tryd.ntmps9 Go.Proofs.Tryd.results9 rfl (Own.nil _) ?_
  refine JC.rs ?_
  refine Seq.alloc (cs := [_, _, _, _, _, _, _, _, _, _, _]) (hz := z.api_Operation) (k := ?_); intro b2
  refine Seq.p rfl Ev.assign ?_
  refine Seq.p rfl Ev.assign ?_
  refine Seq.nil ?_
  refine JC.rs ?_
  refine Seq.p rfl (Ev.buildN [_, _, _, _, _, _, _, _, _, _, _] pl.api_Operation z.api_Operation) ?_
  refine Seq.p rfl Ev.move ?_
  refine Seq.storeN [_, _, _, _, _, _, _, _, _, _, _] sz.api_Operation (k := ?_)
  refine Seq.p rfl Ev.assign ?_
  refine Seq.p rfl Ev.assign ?_
  refine Seq.nil ?_
  refine JC.ret ?_
  show retQ _ _ _ _ _ _ _ _
  refine retB3 ag.api_Operation (hp := Part.nil _) (hpost := ?_)
  rfl
theorem conFieldsSome {w : World} {s : ByteArray} {ks : List Fk} (hs : shapeF s = some ks) : Spec Go.Proofs.Tryd.prog 11 #[.string s] w [] (fun u H' => ∃ v ps, u = .tuple #[v, .bool true] ∧ FieldsAt H' v ks ps) :=
  conFields.mono (by
    rintro u H' (⟨ks2, v, ps, h1, h2, h3⟩ | ⟨h1, _⟩)
    · rw [hs] at h1
      cases h1
      exact ⟨v, ps, h2, h3⟩
    · rw [hs] at h1; cases h1)
theorem conFieldsNone {w : World} {s : ByteArray} (hs : shapeF s = none) : Spec Go.Proofs.Tryd.prog 11 #[.string s] w [] (fun u _ => u = .tuple #[.slice none 0 0, .bool false]) :=
  conFields.mono (by
    rintro u H' (⟨ks2, v, ps, h1, h2, h3⟩ | ⟨h1, h2⟩)
    · rw [hs] at h1; cases h1
    · exact h2)
set_option maxHeartbeats 2000000 in
set_option maxRecDepth 100000 in
theorem conParseNone {w : World} {F : List Int} (hB : isBytes F) (hl : F.length ≤ 281474976710656) (hL : Laid w) (hs : shapeF (strOf (F.take (firstF 32 F))) = none) :
    Spec Go.Proofs.Tryd.prog 5 #[.string (strOf F)] w [] (fun u _ => u = parseV (parseF F)) := by
  have hss := strOf_size F
  refine Spec.enter (fn := Go.Proofs.Tryd.f5) (n := 102) [.string (strOf F)] Go.Proofs.Tryd.func5 (by kernel_rfl) rfl Go.Proofs.Tryd.ntmps5 Go.Proofs.Tryd.results5 rfl (Own.nil _) ?_
  refine JC.rs ?_
  refine Seq.alloc (cs := [_, _, _, _, _, _, _, _, _, _, _]) (hz := z.api_Operation) (k := ?_); intro b2
  refine Seq.p rfl Ev.assign ?_
  refine Seq.p rfl Ev.assign ?_
  refine Seq.nil ?_
  refine JC.seq ?_
  refine JC.rs ?_
  refine Seq.p rfl Ev.move ?_
  refine Seq.p rfl (Ev.lenStr st.string) ?_
  refine Seq.p rfl Ev.gt ?_
  refine Seq.nil ?_
  first | refine JC.c (ht := fun c17 => ?_) (hf := fun c17 => ?_) | refine JC.cb (ht := fun c17 => ?_) (hf := fun c17 => ?_)
  · -- then_t17
    refine JC.rs ?_
    refine Seq.p rfl (Ev.buildN [_, _, _, _, _, _, _, _, _, _, _] pl.api_Operation z.api_Operation) ?_
    refine Seq.storeN [_, _, _, _, _, _, _, _, _, _, _] sz.api_Operation (k := ?_)
    refine Seq.p rfl Ev.assign ?_
    refine Seq.p rfl Ev.assign ?_
    refine Seq.nil ?_
    refine JC.ret ?_
    show retQ _ _ _ _ _ _ _ _
    refine retB3 ag.api_Operation (hp := Part.nil _) (hpost := ?_)
    unfold parseF
    rw [if_pos (by omega)]
    rfl
  · -- else_t17
    refine JC.skip ?_
    refine JC.rs ?_
    refine Seq.p rfl Ev.assign ?_
    refine Seq.nil ?_
    refine JC.rs ?_
    refine Seq.p rfl Ev.move ?_
    refine Seq.callP rfl (fun w' hw => conCut hB hl) ?_
    refine Seq.p rfl Ev.move ?_
    refine Seq.p rfl Ev.extract ?_
    refine Seq.p rfl Ev.extract ?_
    refine Seq.p rfl Ev.extract ?_
    refine Seq.p rfl Ev.assign ?_
    refine Seq.p rfl Ev.assign ?_
    refine Seq.p rfl Ev.assign ?_
    refine Seq.nil ?_
    refine JC.rs ?_
    refine Seq.p rfl Ev.move ?_
    refine Seq.callP rfl (fun w hw => conFieldsNone hs) ?_
    refine Seq.p rfl Ev.move ?_
    refine Seq.p rfl Ev.extract ?_
    refine Seq.p rfl Ev.extract ?_
    refine Seq.p rfl Ev.assign ?_
    refine Seq.p rfl Ev.assign ?_
    refine Seq.nil ?_
    refine JC.seq ?_
    refine JC.rs ?_
    refine Seq.p rfl Ev.move ?_
    refine Seq.p rfl Ev.not ?_
    refine Seq.nil ?_
    first | refine JC.c (ht := fun c31 => ?_) (hf := fun c31 => ?_) | refine JC.cb (ht := fun c31 => ?_) (hf := fun c31 => ?_)
    · -- then_t31
      refine JC.rs ?_
      refine Seq.p rfl Ev.move ?_
      refine Seq.callvP (first := []) (cap := []) rfl rfl (fun w' hw => conWrong) ?_
      refine Seq.p rfl Ev.extract ?_
      refine Seq.p rfl Ev.extract ?_
      refine Seq.p rfl Ev.extract ?_
      refine Seq.storeN [_, _, _, _, _, _, _, _, _, _, _] sz.api_Operation (k := ?_)
      refine Seq.p rfl Ev.assign ?_
      refine Seq.p rfl Ev.assign ?_
      refine Seq.nil ?_
      refine JC.ret ?_
      show retQ _ _ _ _ _ _ _ _
      refine retB3 ag.api_Operation (hp := Part.nil _) (hpost := ?_)
      unfold parseF
      rw [if_neg (by omega), hs]
      rfl
    · -- else_t31
      simp at c31
set_option maxHeartbeats 4000000 in
set_option maxRecDepth 100000 in
theorem conParseSome {w : World} {F : List Int} {ks : List Fk} (hB : isBytes F) (hl : F.length ≤ 281474976710656) (hL : Laid w) (hs : shapeF (strOf (F.take (firstF 32 F))) = some ks) :
    Spec Go.Proofs.Tryd.prog 5 #[.string (strOf F)] w [] (fun u _ => u = parseV (parseF F)) := by
  have hss := strOf_size F
  have hfl := firstF_le 32 F
  have hksz := (shape_size hs).2
  have hpf : F.length ≤ 2048 → parseF F = parseK ks { op0 with word := strOf (F.take (firstF 32 F)) } (F.drop (firstF 32 F)) (firstF 32 F) := fun h => by unfold parseF; rw [if_neg (by omega), hs]
  obtain ⟨n, hn⟩ : ∃ n, n = firstF 32 F := ⟨_, rfl⟩
  have hcut : ∀ w', Spec Go.Proofs.Tryd.prog 10 #[.string (strOf F), .string ⟨#[32]⟩] w' [] (fun u _ => u = .tuple #[.string (strOf (F.take n)), .string (strOf ((F.drop n).drop 1)), .bool (decide (0 < (F.drop n).length))]) := fun w' => by rw [hn]; exact conCut hB hl
  rw [← hn] at hs hfl hpf
  refine Spec.enter (fn := Go.Proofs.Tryd.f5) (n := 102) [.string (strOf F)] Go.Proofs.Tryd.func5 (by kernel_rfl) rfl Go.Proofs.Tryd.ntmps5 Go.Proofs.Tryd.results5 rfl (Own.nil _) ?_
  refine JC.rs ?_
  refine Seq.alloc (cs := [_, _, _, _, _, _, _, _, _, _, _]) (hz := z.api_Operation) (k := ?_); intro b2
  refine Seq.p rfl Ev.assign ?_
  refine Seq.p rfl Ev.assign ?_
  refine Seq.nil ?_
  refine JC.seq ?_
  refine JC.rs ?_
  refine Seq.p rfl Ev.move ?_
  refine Seq.p rfl (Ev.lenStr st.string) ?_
  refine Seq.p rfl Ev.gt ?_
  refine Seq.nil ?_
  first | refine JC.c (ht := fun c17 => ?_) (hf := fun c17 => ?_) | refine JC.cb (ht := fun c17 => ?_) (hf := fun c17 => ?_)
  · -- then_t17
    refine JC.rs ?_
    refine Seq.p rfl (Ev.buildN [_, _, _, _, _, _, _, _, _, _, _] pl.api_Operation z.api_Operation) ?_
    refine Seq.storeN [_, _, _, _, _, _, _, _, _, _, _] sz.api_Operation (k := ?_)
    refine Seq.p rfl Ev.assign ?_
    refine Seq.p rfl Ev.assign ?_
    refine Seq.nil ?_
    refine JC.ret ?_
    show retQ _ _ _ _ _ _ _ _
    refine retB3 ag.api_Operation (hp := Part.nil _) (hpost := ?_)
    unfold parseF
    rw [if_pos (by omega)]
    rfl
  · -- else_t17
    have h2048 : F.length ≤ 2048 := by omega
    have hP := hpf h2048
    clear hpf
    refine JC.skip ?_
    refine JC.rs ?_
    refine Seq.p rfl Ev.assign ?_
    refine Seq.nil ?_
    refine JC.rs ?_
    refine Seq.p rfl Ev.move ?_
    refine Seq.callP rfl (fun w' hw => hcut w') ?_
    refine Seq.p rfl Ev.move ?_
    refine Seq.p rfl Ev.extract ?_
    refine Seq.p rfl Ev.extract ?_
    refine Seq.p rfl Ev.extract ?_
    refine Seq.p rfl Ev.assign ?_
    refine Seq.p rfl Ev.assign ?_
    refine Seq.p rfl Ev.assign ?_
    refine Seq.nil ?_
    refine JC.rs ?_
    refine Seq.p rfl Ev.move ?_
    refine Seq.call rfl (fun w' hw => conFieldsSome hs) (Gs := []) (F := _) (by exact List.Perm.refl _) ?_
    rintro _ L ⟨v, ps, rfl, hfa⟩
    refine Seq.re (fun w h => h.perm List.perm_append_comm) ?_
    simp only [List.cons_append, List.nil_append]
    refine Seq.p rfl Ev.move ?_
    refine Seq.p rfl Ev.extract ?_
    refine Seq.p rfl Ev.extract ?_
    refine Seq.p rfl Ev.assign ?_
    refine Seq.p rfl Ev.assign ?_
    refine Seq.nil ?_
    refine JC.seq ?_
    refine JC.rs ?_
    refine Seq.p rfl Ev.move ?_
    refine Seq.p rfl Ev.not ?_
    refine Seq.nil ?_
    first | refine JC.c (ht := fun c31 => ?_) (hf := fun c31 => ?_) | refine JC.cb (ht := fun c31 => ?_) (hf := fun c31 => ?_)
    · -- then_t31
      simp at c31
    · -- else_t31
      refine JC.skip ?_
      refine JC.rs ?_
      refine Seq.p rfl Ev.move ?_
      refine Seq.p rfl (Ev.buildN (Opn.enc { op0 with word := strOf (F.take n) }) pl.api_Operation z.api_Operation) ?_
      refine Seq.alloc (cs := [_, _, _, _, _, _, _, _, _, _, _]) (hz := z.api_Operation) (k := ?_); intro b11
      refine Seq.storeTo (cs' := Opn.enc { op0 with word := strOf (F.take n) }) sz.api_Operation (hH := At.z) (hfit := Nat.le_of_ble_eq_true rfl) (hcs := rfl) (k := ?_)
      refine Seq.nil ?_
      refine JC.rs ?_
      refine Seq.p rfl Ev.move ?_
      refine Seq.p rfl (Ev.as (v := .int .i64 ((strOf (F.take n)).size : Int)) (v' := .int .i64 (n : Int)) (by rw [strOf_size, List.length_take, Nat.min_eq_left hfl]) (Ev.lenStr st.string)) ?_
      refine Seq.p rfl Ev.assign ?_
      refine Seq.nil ?_
      refine JC.seq ?_
      refine JC.rs ?_
      refine Seq.p rfl Ev.move ?_
      refine Seq.p rfl (Ev.lenSl sl.sl_console_field (hr := (fun w' hw => ⟨[], hfa.rd w' ((hw.part (by repeat (first | exact Part.refl _ | apply Part.skip))).own)⟩))) ?_
      refine Seq.p rfl Ev.move ?_
      refine Seq.nil ?_
      refine JC.blk ?_
      obtain ⟨o0, ho0⟩ : ∃ o : Opn, o = { op0 with word := strOf (F.take n) } := ⟨_, rfl⟩
      rw [← ho0] at hP ⊢
      refine JC.loop (α := Nat × Opn × List Int × Nat) (I := fun q e1 H1 => ∃ W, Has [3, 4, 6, 7, 8, 12, 14, 43, 44, 45, 46, 47, 48, 49, 50, 51, 52, 53, 54, 55, 56, 57, 58, 59, 60, 61, 62, 63, 64, 65, 66, 67, 68, 69, 70, 71, 72, 73, 74, 75, 76, 77, 78, 79, 80, 81, 82, 83, 84, 85, 86, 87, 88, 89, 90, 91, 92] [(43, .int .i64 (q.1 : Int)), (12, .int .i64 (q.2.2.2 : Int)), (8, .bool (decide (0 < q.2.2.1.length))), (7, .string (strOf (q.2.2.1.drop 1))), (6, .string W)] _ e1 ∧ H1 = .box b11 27 q.2.1.enc :: .box b2 27 op0.enc :: L ∧ q.1 ≤ ks.length ∧ parseF F = parseK (ks.drop q.1) q.2.1 q.2.2.1 q.2.2.2 ∧ isBytes q.2.2.1 ∧ q.2.2.2 + q.2.2.1.length = F.length) (μ := fun q => ks.length - q.1) (0, o0, F.drop n, n) ⟨_, Has.mk Off.refl (allLook_cons (by repeat (first | exact Look.here | apply Look.there (hne := rfl) | exact Look.const | apply Look.mix rfl | exact Look.arg0 | apply Look.args | exact Look.func)) (allLook_cons (by repeat (first | exact Look.here | apply Look.there (hne := rfl) | exact Look.const | apply Look.mix rfl | exact Look.arg0 | apply Look.args | exact Look.func)) (allLook_cons (by repeat (first | exact Look.here | apply Look.there (hne := rfl) | exact Look.const | apply Look.mix rfl | exact Look.arg0 | apply Look.args | exact Look.func)) (allLook_cons (by repeat (first | exact Look.here | apply Look.there (hne := rfl) | exact Look.const | apply Look.mix rfl | exact Look.arg0 | apply Look.args | exact Look.func)) (allLook_cons (by repeat (first | exact Look.here | apply Look.there (hne := rfl) | exact Look.const | apply Look.mix rfl | exact Look.arg0 | apply Look.args | exact Look.func)) allLook_nil))))), rfl, Nat.zero_le _, hP, fun x hx => hB x (List.mem_of_mem_drop hx), by show n + (F.drop n).length = _; rw [List.length_drop]; omega⟩ ?_
      rintro ⟨j, o, R, p⟩ _ _ ⟨W, ⟨u, rfl⟩, rfl, hj, hq, hR, hpl⟩; dsimp only [setL]; dsimp only at hj hq hR hpl
      refine JC.rs ?_
      refine Seq.p rfl Ev.lt ?_
      refine Seq.nil ?_
      refine JC.seq ?_
      first | refine JC.c (ht := fun c44 => ?_) (hf := fun c44 => ?_) | refine JC.cb (ht := fun c44 => ?_) (hf := fun c44 => ?_)
      · -- then_t44
        have hpsl := hfa.len
        have hj2 : j < ks.length := by omega
        obtain ⟨⟨f, cap, hf1, hf2⟩, g, cap2, hg1, hg2⟩ := hfa.ok j hj2
        have hps : ps[j]! = (.func (.func f) #[] cap.toArray, .func (.func g) #[] cap2.toArray) := Prod.ext hf1 hg1
        have hkd : ks.drop j = ks[j]! :: ks.drop (j + 1) := by rw [getElem!_pos ks j hj2]; exact List.drop_eq_getElem_cons hj2
        obtain ⟨k, hk⟩ : ∃ k, k = ks[j]! := ⟨_, rfl⟩
        rw [← hk] at hkd hf2 hg2
        rw [hkd] at hq
        refine JC.skip ?_
        refine JC.seq ?_
        refine JC.blk ?_
        refine JC.rs ?_
        refine Seq.p rfl (Ev.iaN sl.sl_console_field (hr := (fun w' hw => ⟨[], hfa.rd w' ((hw.part (by repeat (first | exact Part.refl _ | apply Part.skip))).own)⟩))) ?_
        refine Seq.p rfl (Ev.as (v := .agg (fldEnc ps[j]!).toArray) (v' := .agg #[.func (.func f) #[] cap.toArray, .func (.func g) #[] cap2.toArray]) (by rw [hps]; rfl) (Ev.ldEA ag.console_field (hr := (fun w' hw => ⟨[], hfa.rd w' ((hw.part (by repeat (first | exact Part.refl _ | apply Part.skip))).own)⟩)))) ?_
        refine Seq.alloc (cs := [_, _]) (hz := z.console_field) (k := ?_); intro b14
        refine Seq.storeN [_, _] sz.console_field (k := ?_)
        refine Seq.nil ?_
        refine JC.seq ?_
        refine JC.rs ?_
        refine Seq.p rfl Ev.move ?_
        refine Seq.p rfl Ev.not ?_
        refine Seq.nil ?_
        first | refine JC.c (ht := fun c48 => ?_) (hf := fun c48 => ?_) | refine JC.cb (ht := fun c48 => ?_) (hf := fun c48 => ?_)
        · -- then_t48
          refine JC.rs ?_
          refine Seq.p rfl Ev.move ?_
          refine Seq.p rfl Ev.move ?_
          refine Seq.p rfl (Ev.lenStr st.string) ?_
          refine Seq.callvP (first := []) (cap := []) rfl rfl (fun w' hw => conWrong) ?_
          refine Seq.p rfl Ev.extract ?_
          refine Seq.p rfl Ev.extract ?_
          refine Seq.p rfl Ev.extract ?_
          refine Seq.storeN [_, _, _, _, _, _, _, _, _, _, _] sz.api_Operation (k := ?_)
          refine Seq.p rfl Ev.assign ?_
          refine Seq.p rfl Ev.assign ?_
          refine Seq.nil ?_
          refine JC.ret ?_
          show retQ _ _ _ _ _ _ _ _
          refine retB3 ag.api_Operation (hp := Part.nil _) (hpost := ?_)
          have hR0 : R = [] := by cases R with | nil => rfl | cons => simp at c48
          subst hR0
          rw [hq, hss, show F.length = p by simp at hpl; omega]
          rfl
        · -- else_t48
          obtain ⟨y, R', rfl⟩ : ∃ y R', R = y :: R' := by cases R with | nil => simp at c48 | cons y R' => exact ⟨y, R', rfl⟩
          have hR' : isBytes R' := fun x hx => hR x (List.mem_cons_of_mem _ hx)
          simp only [List.length_cons] at hpl
          simp only [parseK] at hq
          have hml := firstF_le 32 R'
          obtain ⟨m, hm⟩ : ∃ m, m = firstF 32 R' := ⟨_, rfl⟩
          have hcut2 : ∀ w', Spec Go.Proofs.Tryd.prog 10 #[.string (strOf R'), .string ⟨#[32]⟩] w' [] (fun u _ => u = .tuple #[.string (strOf (R'.take m)), .string (strOf ((R'.drop m).drop 1)), .bool (decide (0 < (R'.drop m).length))]) := fun w' => by rw [hm]; exact conCut hR' (by omega)
          rw [← hm] at hq hml
          have hwl : (strOf (R'.take m)).size = m := by rw [strOf_size, List.length_take, Nat.min_eq_left hml]
          refine JC.skip ?_
          refine JC.rs ?_
          refine Seq.p rfl Ev.move ?_
          refine Seq.p rfl (by first | exact Ev.inc | exact Ev.add) ?_
          refine Seq.p rfl Ev.assign ?_
          refine Seq.nil ?_
          refine JC.rs ?_
          refine Seq.p rfl Ev.move ?_
          refine Seq.callP rfl (fun w' hw => hcut2 w') ?_
          refine Seq.p rfl Ev.move ?_
          refine Seq.p rfl Ev.extract ?_
          refine Seq.p rfl Ev.extract ?_
          refine Seq.p rfl Ev.extract ?_
          refine Seq.p rfl Ev.assign ?_
          refine Seq.p rfl Ev.assign ?_
          refine Seq.p rfl Ev.assign ?_
          refine Seq.nil ?_
          refine JC.seq ?_
          refine JC.rs ?_
          refine Seq.p rfl Ev.move ?_
          refine Seq.p rfl Ev.eqStr ?_
          refine Seq.p rfl Ev.move ?_
          refine Seq.andG (D := [66, 67, 68, 69]) (d := 66) (t := 69) (k := 3) (hn := fun h66 => ?_) (hx := ?_)
          · repeat (first | refine Seq.gn rfl rfl rfl rfl ?_ | refine Seq.gu rfl rfl rfl ?_)
            refine Seq.p rfl Ev.pickF ?_
            exact Seq.nil ⟨rfl, (by repeat (first | with_reducible exact Off.refl | refine Off.upd ?_ rfl | exact Off.mix | refine Off.mix2 ?_ rfl)), Look.here⟩
          apply Exists.intro
          refine ⟨fun h66 => ?_, fun u69 => ?_⟩
          · try simp only [decide_eq_true_eq, decide_eq_false_iff_not, Bool.and_eq_true, Bool.or_eq_true, Bool.not_eq_true', Bool.not_eq_false', Bool.or_eq_false_iff, Bool.and_eq_false_imp] at h66
            refine Seq.gy rfl rfl rfl ?_
            refine Seq.p rfl Ev.move ?_
            refine Seq.gy rfl rfl rfl ?_
            refine Seq.p rfl Ev.not ?_
            refine Seq.p rfl Ev.pickT ?_
            exact Seq.nil ⟨rfl, (by repeat (first | with_reducible exact Off.refl | refine Off.upd ?_ rfl | exact Off.mix | refine Off.mix2 ?_ rfl)), Look.here⟩
          refine Seq.nil ?_
          first | refine JC.c (ht := fun c69 => ?_) (hf := fun c69 => ?_) | refine JC.cb (ht := fun c69 => ?_) (hf := fun c69 => ?_)
          · -- then_t69
            refine JC.rs ?_
            refine Seq.p rfl Ev.move ?_
            refine Seq.p rfl Ev.move ?_
            refine Seq.p rfl (Ev.lenStr st.string) ?_
            refine Seq.callvP (first := []) (cap := []) rfl rfl (fun w' hw => conWrong) ?_
            refine Seq.p rfl Ev.extract ?_
            refine Seq.p rfl Ev.extract ?_
            refine Seq.p rfl Ev.extract ?_
            refine Seq.storeN [_, _, _, _, _, _, _, _, _, _, _] sz.api_Operation (k := ?_)
            refine Seq.p rfl Ev.assign ?_
            refine Seq.p rfl Ev.assign ?_
            refine Seq.nil ?_
            refine JC.ret ?_
            show retQ _ _ _ _ _ _ _ _
            refine retB3 ag.api_Operation (hp := Part.nil _) (hpost := ?_)
            simp only [Bool.and_eq_true, Bool.not_eq_true', decide_eq_true_eq, decide_eq_false_iff_not, List.length_drop] at c69
            have hm0 : m = 0 := by rw [← hwl, c69.1]; rfl
            subst hm0
            rw [List.take_zero, put_nil] at hq
            rw [hq, hss, show F.length = p + 1 by omega, Int.natCast_add]
            rfl
          · -- else_t69
            refine JC.skip ?_
            refine JC.seq ?_
            refine JC.rs ?_
            refine Seq.p rfl (Ev.faB fd.console_field_0) ?_
            refine Seq.p rfl (Ev.ldB sc.func_api_Operation_string_bool) ?_
            refine Seq.p rfl Ev.move ?_
            refine Seq.callv (first := []) rfl rfl (fun w' hw => hf2 w' b11 o (R'.take m) (hw.part (Part.skip (Part.here (Part.skip (Part.refl _))))).own (fun w'' H'' h => hL.upd (Upd.step (Gs := [_]) (F := _ :: _ :: L) (hw.perm (List.Perm.swap _ _ _)) h)) (fun x hx => hR' x (List.mem_of_mem_take hx)) (by rw [List.length_take]; omega)) (F := _ :: _ :: L) (List.Perm.swap _ _ _) ?_
            rintro _ _ ⟨ok, cs, rfl, rfl, hput⟩
            simp only [List.cons_append, List.nil_append]
            refine Seq.p rfl Ev.not ?_
            refine Seq.nil ?_
            first | refine JC.c (ht := fun c81 => ?_) (hf := fun c81 => ?_) | refine JC.cb (ht := fun c81 => ?_) (hf := fun c81 => ?_)
            · -- then_t81
              refine JC.rs ?_
              refine Seq.p rfl Ev.move ?_
              refine Seq.p rfl Ev.move ?_
              refine Seq.callvP (first := []) (cap := []) rfl rfl (fun w' hw => conWrong) ?_
              refine Seq.p rfl Ev.extract ?_
              refine Seq.p rfl Ev.extract ?_
              refine Seq.p rfl Ev.extract ?_
              refine Seq.storeN [_, _, _, _, _, _, _, _, _, _, _] sz.api_Operation (k := ?_)
              refine Seq.p rfl Ev.assign ?_
              refine Seq.p rfl Ev.assign ?_
              refine Seq.nil ?_
              refine JC.ret ?_
              show retQ _ _ _ _ _ _ _ _
              refine retB3 ag.api_Operation (hp := Part.nil _) (hpost := ?_)
              cases hp : putF k o (R'.take m) with
              | some o' => rw [hp] at hput; rw [hput.1] at c81; simp at c81
              | none => rw [hp] at hq; rw [hq]; rfl
            · -- else_t81
              obtain ⟨o', hp⟩ : ∃ o', putF k o (R'.take m) = some o' := by cases hp : putF k o (R'.take m) with | some o' => exact ⟨o', rfl⟩ | none => rw [hp] at hput; rw [hput] at c81; simp at c81
              rw [hp] at hput hq
              obtain ⟨rfl, rfl⟩ := hput
              refine JC.skip ?_
              refine JC.reg ?_
              refine Seq.p rfl Ev.move ?_
              refine Seq.p rfl Ev.move ?_
              refine Seq.p rfl (Ev.as (v := .int .i64 ((strOf (R'.take m)).size : Int)) (v' := .int .i64 (m : Int)) (by rw [hwl]) (Ev.lenStr st.string)) ?_
              refine Seq.p rfl (Ev.addN (m := p + 1) (c := m)) ?_
              refine Seq.p rfl Ev.assign ?_
              refine Seq.nil ?_
              refine JC.reg ?_
              refine Seq.p rfl (by first | exact Ev.inc | exact Ev.add) ?_
              refine Seq.p rfl Ev.move ?_
              refine Seq.nil ?_
              exact ⟨(j + 1, o', R'.drop m, p + 1 + m), _, Part.here (Part.skip (Part.refl _)), ⟨_, Has.mk (by repeat (first | refine Off.upd ?_ rfl | exact Off.mix | refine Off.mix2 ?_ rfl | exact Off.refl)) (allLook_cons (by repeat (first | exact Look.here | apply Look.there (hne := rfl) | exact Look.const | apply Look.mix rfl | exact Look.arg0 | apply Look.args | exact Look.func)) (allLook_cons (by repeat (first | exact Look.here | apply Look.there (hne := rfl) | exact Look.const | apply Look.mix rfl | exact Look.arg0 | apply Look.args | exact Look.func)) (allLook_cons (by repeat (first | exact Look.here | apply Look.there (hne := rfl) | exact Look.const | apply Look.mix rfl | exact Look.arg0 | apply Look.args | exact Look.func)) (allLook_cons (by repeat (first | exact Look.here | apply Look.there (hne := rfl) | exact Look.const | apply Look.mix rfl | exact Look.arg0 | apply Look.args | exact Look.func)) (allLook_cons (by repeat (first | exact Look.here | apply Look.there (hne := rfl) | exact Look.const | apply Look.mix rfl | exact Look.arg0 | apply Look.args | exact Look.func)) allLook_nil))))), rfl, by show j + 1 ≤ _; omega, hq, fun x hx => hR' x (List.mem_of_mem_drop hx), by show p + 1 + m + (R'.drop m).length = _; rw [List.length_drop]; omega⟩, by show ks.length - (j + 1) < ks.length - j; omega⟩
      · -- else_t44
        have hpsl := hfa.len
        obtain rfl : j = ks.length := by omega
        rw [List.drop_length] at hq
        refine JC.exit ?_ -- 0
        refine JC.seq ?_
        refine JC.rs ?_
        refine Seq.p rfl Ev.move ?_
        refine Seq.nil ?_
        first | refine JC.c (ht := fun c93 => ?_) (hf := fun c93 => ?_) | refine JC.cb (ht := fun c93 => ?_) (hf := fun c93 => ?_)
        · -- then_t93
          refine JC.rs ?_
          refine Seq.p rfl Ev.move ?_
          refine Seq.p rfl Ev.move ?_
          refine Seq.p rfl (by first | exact Ev.inc | exact Ev.add) ?_
          refine Seq.callvP (first := []) (cap := []) rfl rfl (fun w' hw => conWrong) ?_
          refine Seq.p rfl Ev.extract ?_
          refine Seq.p rfl Ev.extract ?_
          refine Seq.p rfl Ev.extract ?_
          refine Seq.storeN [_, _, _, _, _, _, _, _, _, _, _] sz.api_Operation (k := ?_)
          refine Seq.p rfl Ev.assign ?_
          refine Seq.p rfl Ev.assign ?_
          refine Seq.nil ?_
          refine JC.ret ?_
          show retQ _ _ _ _ _ _ _ _
          refine retB3 ag.api_Operation (hp := Part.nil _) (hpost := ?_)
          cases R with
          | nil => simp at c93
          | cons y R' => rw [hq, Int.natCast_add]; rfl
        · -- else_t93
          refine JC.skip ?_
          refine JC.rs ?_
          refine Seq.p rfl (Ev.ldBA (cs := o.enc) ag.api_Operation) ?_
          refine Seq.storeTo (cs' := o.enc) sz.api_Operation (hH := At.s At.z) (hfit := Nat.le_of_ble_eq_true rfl) (hcs := rfl) (k := ?_)
          refine Seq.p rfl Ev.assign ?_
          refine Seq.p rfl Ev.assign ?_
          refine Seq.nil ?_
          refine JC.ret ?_
          show retQ _ _ _ _ _ _ _ _
          refine retB3 ag.api_Operation (hp := Part.nil _) (hpost := ?_)
          cases R with
          | cons y R' => simp at c93
          | nil => rw [hq]; rfl
theorem conParseL {w : World} {F : List Int} (hB : isBytes F) (hl : F.length ≤ 281474976710656) (hL : Laid w) : Spec Go.Proofs.Tryd.prog 5 #[.string (strOf F)] w [] (fun u _ => u = parseV (parseF F)) := by
  cases hs : shapeF (strOf (F.take (firstF 32 F))) with
  | none => exact conParseNone hB hl hL hs
  | some ks => exact conParseSome hB hl hL hs
end Go.Rx
/- Operators' lines read by the document. -/
namespace Go.Rx
open Go Go.RowKit Go.Lib Go.Proofs.YtonoamdonmbkpaaDoor
set_option linter.unusedVariables false
set_option linter.unusedSimpArgs false
def kstr : Fk → ByteArray
  | .name => ⟨#[110, 97, 109, 101]⟩
  | .price => ⟨#[112, 114, 105, 99, 101]⟩
  | .member => ⟨#[109, 101, 109, 98, 101, 114]⟩
  | .count => ⟨#[99, 111, 117, 110, 116]⟩
  | .lcount => ⟨#[99, 111, 117, 110, 116]⟩
  | .ord => ⟨#[111, 114, 100, 101, 114]⟩
  | .opn => ⟨#[111, 112, 101, 110]⟩
  | .pos => ⟨#[112, 111, 115, 105, 116, 105, 111, 110]⟩
  | .worth => ⟨#[119, 111, 114, 116, 104]⟩
abbrev limS : ByteArray := ⟨#[108, 105, 109, 105, 116, 115]⟩
def strEnc (s : ByteArray) : List Value := [.string s]
def putN (k : Fk) (o : Opn) (n : Nat) : Opn × Bool :=
  match k with
  | .name => (o, false)
  | .member => ({ o with member := (n : Int) % 4294967296 }, decide (1 ≤ (n : Int)) && decide ((n : Int) ≤ 4294967295))
  | .price => ({ o with price := IntKind.i64.wrap (n : Int) }, decide ((n : Int) < 262144))
  | .count => ({ o with count := IntKind.i64.wrap (n : Int) }, decide ((n : Int) ≤ 999999999))
  | .lcount => ({ o with lcount := IntKind.i64.wrap (n : Int) }, decide ((n : Int) ≤ 999999999))
  | .ord => ({ o with ord := n, has := true }, true)
  | .opn => ({ o with opn := n }, true)
  | .pos => ({ o with pos := n }, true)
  | .worth => ({ o with worth := n }, true)
def putR (k : Fk) (o : Opn) (F : List Int) : Opn × Bool :=
  if k = .name then ({ o with name := strOf F }, nameB F)
  else match numOf (strOf F) with
    | some n => putN k o n
    | none => (o, false)
end Go.Rx
/- Operators' lines read by the document: Parse. -/
namespace Go.Rx
open Go Go.RowKit Go.Lib Go.Proofs.YtonoamdonmbkpaaDoor
set_option linter.unusedVariables false
set_option linter.unusedSimpArgs false
end Go.Rx
/- Operators' lines printed by the program. -/
namespace Go.Rx
open Go Go.RowKit Go.Lib Go.Proofs.YtonoamdonmbkpaaDoor
set_option linter.unusedVariables false
set_option linter.unusedSimpArgs false
theorem bytes_back (s : ByteArray) : (bytesOf s).map (fun n => UInt8.ofNat n.toNat) = s.data.toList := by
  rw [← strOf_toList, strOf_bytes]
theorem join_words (o : Opn) (ks : List Fk) : (⟨(Lib.join ((o.word :: ks.map fun k => writeF k o).map (·.data.toList)) [32]).toArray⟩ : ByteArray) = strOf (wordsL o ks) := by
  rw [← strOf_mk]
  congr 2
  rw [List.map_cons, Lib.join_cons, wordsL, List.map_append, bytes_back]
  congr 1
  unfold Lib.joinTail tailL
  induction ks with
  | nil => rfl
  | cons k ks ih =>
    rw [List.map_cons, List.map_cons, List.map_cons, List.flatten_cons, List.flatMap_cons, List.map_append, List.map_cons, bytes_back, ← ih]
    try rfl
theorem itoa_size {n : Int} (h : -9223372036854775808 ≤ n ∧ n ≤ 9223372036854775807) : (⟨(itoa n).toArray⟩ : ByteArray).size ≤ 21 := by
  show (itoa n).toArray.size ≤ 21
  rw [List.size_toArray]
  unfold itoa
  split
  · have := dec_len (u := n.natAbs) (by omega)
    simp only [List.length_cons]
    omega
  · have := dec_len (u := n.toNat) (by omega)
    omega
theorem write_size {k : Fk} {o : Opn} (ho : OpnOk o) : (writeF k o).size ≤ 21 + o.name.size := by
  have hd : ∀ n : Int, 0 ≤ n → n ≤ 18446744073709551615 → (decS n.toNat).size ≤ 21 := fun n h1 h2 => by have := (decS_facts (n := n.toNat) (by omega)).2.1; omega
  obtain ⟨h1, h2, h3, h4, h5, h6, h7, h8⟩ := ho
  cases k
  case name => show o.name.size ≤ _; omega
  case price => have := itoa_size h2; show (⟨(itoa o.price).toArray⟩ : ByteArray).size ≤ _; omega
  case count => have := itoa_size h3; show (⟨(itoa o.count).toArray⟩ : ByteArray).size ≤ _; omega
  case lcount => have := itoa_size h6; show (⟨(itoa o.lcount).toArray⟩ : ByteArray).size ≤ _; omega
  case member => have := hd o.member (by omega) (by omega); show (decS o.member.toNat).size ≤ _; omega
  case ord => have := hd o.ord (by omega) (by omega); show (decS o.ord.toNat).size ≤ _; omega
  case opn => have := hd o.opn (by omega) (by omega); show (decS o.opn.toNat).size ≤ _; omega
  case pos => have := hd o.pos (by omega) (by omega); show (decS o.pos.toNat).size ≤ _; omega
  case worth => have := hd o.worth (by omega) (by omega); show (decS o.worth.toNat).size ≤ _; omega
theorem write_size2 {k : Fk} {o : Opn} (ho : OpnOk o) (hk : k ≠ .name) : (writeF k o).size ≤ 21 := by
  have h := write_size (k := k) (o := { o with name := ⟨#[]⟩ }) ⟨ho.member, ho.price, ho.count, ho.ord, ho.opn, ho.lcount, ho.pos, ho.worth⟩
  have e : writeF k { o with name := ⟨#[]⟩ } = writeF k o := by cases k <;> first | rfl | exact absurd rfl hk
  rw [e] at h
  have : (⟨#[]⟩ : ByteArray).size = 0 := rfl
  simp only at h
  omega
theorem words_len {o : Opn} {ks : List Fk} (ho : OpnOk o) (hs : shapeF o.word = some ks) : (wordsL o ks).length ≤ o.name.size + 200 := by
  have hw := (shape_size hs).1
  have hn : (writeF .name o).size = o.name.size := rfl
  have h2 : ∀ k, k ≠ .name → (bytesOf (writeF k o)).length ≤ 21 := fun k hk => by rw [bytesOf_length]; exact write_size2 ho hk
  have g1 := h2 .price (by decide)
  have g2 := h2 .member (by decide)
  have g3 := h2 .count (by decide)
  have g4 := h2 .ord (by decide)
  have g5 := h2 .opn (by decide)
  have g6 := h2 .lcount (by decide)
  have g7 := h2 .pos (by decide)
  have g8 := h2 .worth (by decide)
  have gn : (bytesOf (writeF .name o)).length = o.name.size := by rw [bytesOf_length]; rfl
  unfold wordsL tailL
  rw [List.length_append, bytesOf_length]
  rcases (shape_cases hs).1 with ⟨h | h | h | h | h, _⟩ | ⟨h, _⟩ <;> subst h <;> simp only [limK, List.flatMap_cons, List.flatMap_nil, List.length_append, List.length_cons, List.length_nil] <;> omega
theorem parse_zero : ∀ (ks : List Fk) (o : Opn) (R : List Int) (p : Nat), (parseK ks o R p).2.2 = 0 → (parseK ks o R p).2.1 = 0
  | [], o, [], p, _ => rfl
  | [], o, y :: R, p, h => by simp [parseK] at h
  | k :: ks, o, [], p, h => by simp [parseK] at h
  | k :: ks, o, y :: R, p, h => by
    simp only [parseK] at h ⊢
    cases hp : putF k o (R.take (firstF 32 R)) with
    | none => rw [hp] at h; simp at h
    | some o' => rw [hp] at h; exact parse_zero ks o' _ _ h
theorem parseF_zero {F : List Int} (h : (parseF F).2.2 = 0) : (parseF F).2.1 = 0 := by
  unfold parseF at h ⊢
  split
  · rename_i h2; rw [if_pos h2] at h; simp at h
  · rename_i h2
    rw [if_neg h2] at h
    cases hs : shapeF (strOf (F.take (firstF 32 F))) with
    | none => rfl
    | some ks => rw [hs] at h; exact parse_zero ks _ _ _ h
theorem parse_same {F : List Int} {o : Opn} : parseF F = (o, 0, 0) ↔ (parseF F).2.2 = 0 ∧ (parseF F).1 = o := by
  constructor
  · intro h; rw [h]; exact ⟨rfl, rfl⟩
  · rintro ⟨h1, h2⟩
    have h3 := parseF_zero h1
    exact Prod.ext h2 (Prod.ext h3 h1)
set_option maxHeartbeats 1000000 in
theorem conJoin {w w0 : World} {Cs H : List Chunk} {i : Nat} {v : Value} {x : ByteArray} {xs : List ByteArray} (hH : At H i (.own 9 1 v (x :: xs).length ((x :: xs).flatMap strEnc))) (hw : Upd w0 w Cs H) (hn : xs.length ≤ 100)
    (hlen : (Lib.join ((x :: xs).map (·.data.toList)) [32]).length ≤ 281474976710656) : Spec Go.Proofs.Tryd.prog 15 #[v, .string ⟨#[32]⟩] w [] (fun u _ => u = .string ⟨(Lib.join ((x :: xs).map (·.data.toList)) [32]).toArray⟩) := by
  have hr := RSl.owned (enc := strEnc) (xs := x :: xs) hH hw rfl rfl (fun _ => rfl) (by simp only [List.length_cons]; omega)
  have hok : OwnR w 9 1 v (x :: xs).length ((x :: xs).flatMap strEnc) := hH.ok hw
  rcases hok.2 with ⟨_, h0⟩ | ⟨g, off, cap, cur, fr, rfl, hg, hc, _⟩
  · simp at h0
  refine spec_of_below ⟨Go.Proofs.Tryd.f15, Go.Proofs.Tryd.func15, by kernel_rfl, rfl⟩ ?_
  refine Go.Proofs.Any.strings_Join_48 Go.Proofs.Tryd.lays156 Go.Proofs.Tryd.Builder_Extra_156 g off cap (x :: xs) ⟨#[32]⟩ w ?_ (Array.getElem?_eq_some_iff.1 hg).1 (by simp only [List.length_cons]; omega) hc hlen
  intro j y hy
  have hj := (List.getElem?_eq_some_iff.1 hy).1
  have h2 := (hr.cell j hj 0 (.string y) (by
    rw [getElem!_pos _ j hj]
    have := (List.getElem?_eq_some_iff.1 hy).2
    rw [this]
    rfl)).1
  have e : ((sbase (.slice (some ⟨g, off, none⟩) (x :: xs).length cap)).add (j * 1 + 0)) = ⟨g, off + j, none⟩ := by
    show Addr.add ⟨g, off, none⟩ (j * 1 + 0) = _
    by_cases h : j = 0
    · subst h; rfl
    · simp [Addr.add, h]
  rw [e] at h2
  exact h2
theorem conPrintNone {w : World} {o : Opn} (hs : shapeF o.word = none) : Spec Go.Proofs.Tryd.prog 7 #[.agg o.enc.toArray] w [] (fun u _ => u = .tuple #[.string (printF o).1, .int .i64 (printF o).2]) := by
  have hp : printF o = (⟨#[]⟩, 270) := by unfold printF; rw [hs]
  rw [hp]
  refine Spec.enter (fn := Go.Proofs.Tryd.f7) (n := 54) [.agg o.enc.toArray] Go.Proofs.Tryd.func7 (by kernel_rfl) rfl Go.Proofs.Tryd.ntmps7 Go.Proofs.Tryd.results7 rfl (Own.nil _) ?_
  refine JC.rs ?_
  refine Seq.box (cs := [_, _, _, _, _, _, _, _, _, _, _]) (k := ?_); intro b1
  refine Seq.p rfl Ev.assign ?_
  refine Seq.p rfl Ev.assign ?_
  refine Seq.nil ?_
  refine JC.rs ?_
  refine Seq.p rfl (Ev.faB fd.api_Operation_0) ?_
  refine Seq.p rfl (Ev.ldB sc.string) ?_
  refine Seq.callP rfl (fun w hw => conFieldsNone hs) ?_
  refine Seq.p rfl Ev.move ?_
  refine Seq.p rfl Ev.extract ?_
  refine Seq.p rfl Ev.extract ?_
  refine Seq.p rfl Ev.assign ?_
  refine Seq.p rfl Ev.assign ?_
  refine Seq.nil ?_
  refine JC.seq ?_
  refine JC.rs ?_
  refine Seq.p rfl Ev.move ?_
  refine Seq.p rfl Ev.not ?_
  refine Seq.nil ?_
  first | refine JC.c (ht := fun c20 => ?_) (hf := fun c20 => ?_) | refine JC.cb (ht := fun c20 => ?_) (hf := fun c20 => ?_)
  · -- then_t20
    refine JC.rs ?_
    refine Seq.p rfl Ev.assign ?_
    refine Seq.p rfl Ev.assign ?_
    refine Seq.nil ?_
    refine JC.ret ?_
    show retQ _ _ _ _ _ _ _ _
    refine ret2 (hp := Part.nil _) (hpost := ?_)
    rfl
  · -- else_t20
    simp at c20
set_option maxHeartbeats 4000000 in
set_option maxRecDepth 100000 in
theorem conPrintSome {w : World} {o : Opn} {ks : List Fk} (hs : shapeF o.word = some ks) (ho : OpnOk o) (hnm : o.name.size ≤ 140737488355328) (hL : Laid w) : Spec Go.Proofs.Tryd.prog 7 #[.agg o.enc.toArray] w [] (fun u _ => u = .tuple #[.string (printF o).1, .int .i64 (printF o).2]) := by
  have hksz := (shape_size hs).2
  have hwl := words_len ho hs
  have hwb := wordsL_bytes o ks
  have hjw := join_words o ks
  have hps := parse_same (F := wordsL o ks) (o := o)
  obtain ⟨PF, hPF⟩ : ∃ PF, PF = parseF (wordsL o ks) := ⟨_, rfl⟩
  have hpr : printF o = if PF.2.2 = 0 ∧ PF.1 = o then (strOf (wordsL o ks), 0) else (⟨#[]⟩, 270) := by
    unfold printF
    rw [hs]
    simp only
    by_cases h : parseF (wordsL o ks) = (o, 0, 0)
    · rw [if_pos h, if_pos (hPF ▸ hps.1 h)]
    · rw [if_neg h, if_neg (fun h2 => h (hps.2 (hPF ▸ h2)))]
  obtain ⟨po, pa, pe⟩ := PF
  simp only at hpr
  have hparse : ∀ w', Laid w' → Spec Go.Proofs.Tryd.prog 5 #[.string (strOf (wordsL o ks))] w' [] (fun u _ => u = .tuple #[.agg po.enc.toArray, .int .i64 pa, .int .i64 pe]) := fun w' hl => by
    have h := conParseL (w := w') hwb (by omega) hl
    rw [← hPF] at h
    exact h
  have hjl : (Lib.join ((o.word :: ks.map fun k => writeF k o).map (·.data.toList)) [32]).length ≤ 281474976710656 := by
    have h2 := congrArg ByteArray.size hjw
    rw [strOf_size] at h2
    have h3 : (⟨(Lib.join ((o.word :: ks.map fun k => writeF k o).map (·.data.toList)) [32]).toArray⟩ : ByteArray).size = (Lib.join ((o.word :: ks.map fun k => writeF k o).map (·.data.toList)) [32]).length := List.size_toArray
    omega
  rw [hpr]
  clear hpr hps
  refine Spec.enter (fn := Go.Proofs.Tryd.f7) (n := 54) [.agg o.enc.toArray] Go.Proofs.Tryd.func7 (by kernel_rfl) rfl Go.Proofs.Tryd.ntmps7 Go.Proofs.Tryd.results7 rfl (Own.nil _) ?_
  refine JC.rs ?_
  refine Seq.box (cs := [_, _, _, _, _, _, _, _, _, _, _]) (k := ?_); intro b1
  refine Seq.p rfl Ev.assign ?_
  refine Seq.p rfl Ev.assign ?_
  refine Seq.nil ?_
  refine JC.rs ?_
  refine Seq.p rfl (Ev.faB fd.api_Operation_0) ?_
  refine Seq.p rfl (Ev.ldB sc.string) ?_
  refine Seq.call rfl (fun w' hw => conFieldsSome hs) (Gs := []) (F := _) (by exact List.Perm.refl _) ?_
  rintro _ L ⟨v, ps, rfl, hfa⟩
  refine Seq.re (fun w h => h.perm List.perm_append_comm) ?_
  simp only [List.cons_append, List.nil_append]
  refine Seq.p rfl Ev.move ?_
  refine Seq.p rfl Ev.extract ?_
  refine Seq.p rfl Ev.extract ?_
  refine Seq.p rfl Ev.assign ?_
  refine Seq.p rfl Ev.assign ?_
  refine Seq.nil ?_
  refine JC.seq ?_
  refine JC.rs ?_
  refine Seq.p rfl Ev.move ?_
  refine Seq.p rfl Ev.not ?_
  refine Seq.nil ?_
  first | refine JC.c (ht := fun c20 => ?_) (hf := fun c20 => ?_) | refine JC.cb (ht := fun c20 => ?_) (hf := fun c20 => ?_)
  · -- then_t20
    simp at c20
  · -- else_t20
    refine JC.skip ?_
    refine JC.rs ?_
    refine Seq.p rfl (Ev.faB fd.api_Operation_0) ?_
    refine Seq.p rfl (Ev.ldB sc.string) ?_
    refine Seq.buildSlN [.string o.word] (hsl := sl.sl_string) (hz := z.string) (k := ?_); intro b23
    refine Seq.re (fun w h => Upd.boxOwn h (n := 1) (size := 1) At.z rfl (by omega)) ?_
    refine Seq.p rfl Ev.assign ?_
    refine Seq.nil ?_
    refine JC.seq ?_
    refine JC.rs ?_
    refine Seq.p rfl Ev.move ?_
    refine Seq.p rfl (Ev.lenSl sl.sl_console_field (hr := (fun w' hw => ⟨[], hfa.rd w' ((hw.part (by repeat (first | exact Part.refl _ | apply Part.skip))).own)⟩))) ?_
    refine Seq.p rfl Ev.move ?_
    refine Seq.nil ?_
    refine JC.blk ?_
    refine JC.loop (α := Nat) (I := fun j e1 H1 => ∃ A c, Has [6, 8, 26, 27, 28, 29, 30, 31, 32, 33, 34, 35, 36, 37] [(26, .int .i64 (j : Int)), (6, .slice A (o.word :: (ks.take j).map fun k => writeF k o).length c)] _ e1 ∧ H1 = .own 9 1 (.slice A (o.word :: (ks.take j).map fun k => writeF k o).length c) (o.word :: (ks.take j).map fun k => writeF k o).length ((o.word :: (ks.take j).map fun k => writeF k o).flatMap strEnc) :: .box b1 27 o.enc :: L ∧ j ≤ ks.length) (μ := fun j => ks.length - j) 0 ⟨_, _, Has.mk Off.refl (allLook_cons (by repeat (first | exact Look.here | apply Look.there (hne := rfl) | exact Look.const | apply Look.mix rfl | exact Look.arg0 | apply Look.args | exact Look.func)) (allLook_cons (by repeat (first | exact Look.here | apply Look.there (hne := rfl) | exact Look.const | apply Look.mix rfl | exact Look.arg0 | apply Look.args | exact Look.func)) allLook_nil)), rfl, Nat.zero_le _⟩ ?_
    rintro j _ _ ⟨A, c, ⟨u, rfl⟩, rfl, hj⟩; dsimp only [setL]
    refine JC.rs ?_
    refine Seq.p rfl Ev.lt ?_
    refine Seq.nil ?_
    refine JC.seq ?_
    first | refine JC.c (ht := fun c27 => ?_) (hf := fun c27 => ?_) | refine JC.cb (ht := fun c27 => ?_) (hf := fun c27 => ?_)
    · -- then_t27
      have hpsl := hfa.len
      have hj2 : j < ks.length := by omega
      obtain ⟨⟨f, cap, hf1, hf2⟩, g, cap2, hg1, hg2⟩ := hfa.ok j hj2
      have hps : ps[j]! = (.func (.func f) #[] cap.toArray, .func (.func g) #[] cap2.toArray) := Prod.ext hf1 hg1
      have hX : (o.word :: (ks.take (j + 1)).map fun k => writeF k o) = (o.word :: (ks.take j).map fun k => writeF k o) ++ [writeF ks[j]! o] := by
        rw [List.take_succ_eq_append_getElem hj2, List.map_append, getElem!_pos ks j hj2]
        rfl
      have hXl : (o.word :: (ks.take j).map fun k => writeF k o).length ≤ 7 := by simp only [List.length_cons, List.length_map, List.length_take]; omega
      obtain ⟨X, hXe⟩ : ∃ X, X = (o.word :: (ks.take j).map fun k => writeF k o) := ⟨_, rfl⟩
      rw [← hXe] at hX hXl ⊢
      refine JC.skip ?_
      refine JC.seq ?_
      refine JC.blk ?_
      refine JC.rs ?_
      refine Seq.p rfl (Ev.iaN sl.sl_console_field (hr := (fun w' hw => ⟨[], hfa.rd w' ((hw.part (by repeat (first | exact Part.refl _ | apply Part.skip))).own)⟩))) ?_
      refine Seq.p rfl (Ev.as (v := .agg (fldEnc ps[j]!).toArray) (v' := .agg #[.func (.func f) #[] cap.toArray, .func (.func g) #[] cap2.toArray]) (by rw [hps]; rfl) (Ev.ldEA ag.console_field (hr := (fun w' hw => ⟨[], hfa.rd w' ((hw.part (by repeat (first | exact Part.refl _ | apply Part.skip))).own)⟩)))) ?_
      refine Seq.alloc (cs := [_, _]) (hz := z.console_field) (k := ?_); intro b8
      refine Seq.storeN [_, _] sz.console_field (k := ?_)
      refine Seq.nil ?_
      refine JC.reg ?_
      refine Seq.p rfl Ev.move ?_
      refine Seq.p rfl (Ev.faB fd.console_field_1) ?_
      refine Seq.p rfl (Ev.ldB sc.func_api_Operation_string) ?_
      refine Seq.p rfl (Ev.ldBA (cs := o.enc) ag.api_Operation) ?_
      refine Seq.callvP (first := []) rfl rfl (fun w' hw => hg2 w' o ((hw.part (by repeat (first | exact Part.refl _ | apply Part.skip))).own) (hL.upd hw).t ho) ?_
      refine Seq.buildSlN [_] (hsl := sl.sl_string) (hz := z.string) (k := ?_); intro b35
      refine Seq.append (hsl := sl.sl_string) (he := el.string) (hsrc := (fun w' hw => Src.box (news := strEnc (writeF ks[j]! o)) sl.sl_string At.z hw rfl (fun q u hu => hu))) (k := ?_); intro A36 c36
      refine Seq.p rfl Ev.assign ?_
      refine Seq.nil ?_
      refine JC.reg ?_
      refine Seq.p rfl (by first | exact Ev.inc | exact Ev.add) ?_
      refine Seq.p rfl Ev.move ?_
      refine Seq.nil ?_
      refine ⟨j + 1, _, Part.skip (Part.skip (Part.refl _)), ⟨A36, c36, Has.mk (by repeat (first | refine Off.upd ?_ rfl | exact Off.mix | refine Off.mix2 ?_ rfl | exact Off.refl)) (allLook_cons (by repeat (first | exact Look.here | apply Look.there (hne := rfl) | exact Look.const | apply Look.mix rfl | exact Look.arg0 | apply Look.args | exact Look.func)) (allLook_cons (by rw [hX, List.length_append]; exact (by repeat (first | exact Look.here | apply Look.there (hne := rfl) | exact Look.const | apply Look.mix rfl | exact Look.arg0 | apply Look.args | exact Look.func))) allLook_nil)), ?_, by omega⟩, by omega⟩
      rw [hX]
      simp
    · -- else_t27
      have hpsl := hfa.len
      obtain rfl : j = ks.length := by omega
      rw [List.take_length]
      refine JC.exit ?_ -- 0
      refine JC.rs ?_
      refine Seq.p rfl Ev.move ?_
      refine Seq.callP rfl (fun w' hw => conJoin At.z hw (by rw [List.length_map]; omega) hjl) ?_
      rw [hjw]
      refine Seq.p rfl Ev.assign ?_
      refine Seq.nil ?_
      refine JC.seq ?_
      refine JC.rs ?_
      refine Seq.p rfl Ev.move ?_
      refine Seq.callP rfl (fun w' hw => hparse w' (hL.upd hw)) ?_
      refine Seq.p rfl Ev.move ?_
      refine Seq.p rfl Ev.extract ?_
      refine Seq.p rfl Ev.extract ?_
      refine Seq.p rfl Ev.extract ?_
      refine Seq.alloc (cs := [_, _, _, _, _, _, _, _, _, _, _]) (hz := z.api_Operation) (k := ?_); intro b10
      refine Seq.storeTo (cs' := po.enc) sz.api_Operation (hH := At.z) (hfit := Nat.le_of_ble_eq_true rfl) (hcs := rfl) (k := ?_)
      refine Seq.p rfl Ev.assign ?_
      refine Seq.p rfl Ev.assign ?_
      refine Seq.nil ?_
      refine JC.rs ?_
      refine Seq.p rfl Ev.move ?_
      refine Seq.p rfl Ev.ne ?_
      refine Seq.p rfl Ev.move ?_
      refine Seq.orG (D := [48, 49, 50, 51, 52]) (d := 48) (t := 52) (k := 4) (hn := fun h48 => ?_) (hx := ?_)
      · repeat (first | refine Seq.gn rfl rfl rfl rfl ?_ | refine Seq.gu rfl rfl rfl ?_)
        refine Seq.p rfl Ev.pickT ?_
        exact Seq.nil ⟨rfl, (by repeat (first | with_reducible exact Off.refl | refine Off.upd ?_ rfl | exact Off.mix | refine Off.mix2 ?_ rfl)), Look.here⟩
      apply Exists.intro
      refine ⟨fun h48 => ?_, fun u52 => ?_⟩
      · try simp only [decide_eq_true_eq, decide_eq_false_iff_not, Bool.and_eq_true, Bool.or_eq_true, Bool.not_eq_true', Bool.not_eq_false', Bool.or_eq_false_iff, Bool.and_eq_false_imp] at h48
        refine Seq.gy rfl rfl rfl ?_
        refine Seq.p rfl (Ev.ldBA (cs := po.enc) ag.api_Operation) ?_
        refine Seq.gy rfl rfl rfl ?_
        refine Seq.p rfl (Ev.ldBA (cs := o.enc) ag.api_Operation) ?_
        refine Seq.gy rfl rfl rfl ?_
        refine Seq.p rfl (Ev.as (v' := .bool (!(decide (po = o)))) (by rw [← Opn.eqL_enc]) (Ev.neAg (xs := po.enc) (ys := o.enc) so.api_Operation ag.api_Operation gd.api_Operation)) ?_
        refine Seq.p rfl Ev.pickF ?_
        exact Seq.nil ⟨rfl, (by repeat (first | with_reducible exact Off.refl | refine Off.upd ?_ rfl | exact Off.mix | refine Off.mix2 ?_ rfl)), Look.here⟩
      refine Seq.nil ?_
      first | refine JC.c (ht := fun c52 => ?_) (hf := fun c52 => ?_) | refine JC.cb (ht := fun c52 => ?_) (hf := fun c52 => ?_)
      · -- then_t52
        refine JC.rs ?_
        refine Seq.p rfl Ev.assign ?_
        refine Seq.p rfl Ev.assign ?_
        refine Seq.nil ?_
        refine JC.ret ?_
        show retQ _ _ _ _ _ _ _ _
        refine ret2 (hp := Part.nil _) (hpost := ?_)
        rw [if_neg (fun h => by rw [h.1, h.2] at c52; simp at c52)]
      · -- else_t52
        refine JC.skip ?_
        refine JC.rs ?_
        refine Seq.p rfl Ev.move ?_
        refine Seq.p rfl Ev.assign ?_
        refine Seq.p rfl Ev.assign ?_
        refine Seq.nil ?_
        refine JC.ret ?_
        show retQ _ _ _ _ _ _ _ _
        refine ret2 (hp := Part.nil _) (hpost := ?_)
        rw [if_pos (by simpa using c52)]
theorem conPrint {w : World} {o : Opn} (ho : OpnOk o) (hnm : o.name.size ≤ 140737488355328) (hL : Laid w) : Spec Go.Proofs.Tryd.prog 7 #[.agg o.enc.toArray] w [] (fun u _ => u = .tuple #[.string (printF o).1, .int .i64 (printF o).2]) := by
  cases hs : shapeF o.word with
  | none => exact conPrintNone hs
  | some ks => exact conPrintSome hs ho hnm hL
end Go.Rx
/- Operators' lines printed by the document. -/
namespace Go.Rx
open Go Go.RowKit Go.Lib Go.Proofs.YtonoamdonmbkpaaDoor
set_option linter.unusedVariables false
set_option linter.unusedSimpArgs false
end Go.Rx
/- The laws ConsoleReads and ConsoleForms give true. -/
namespace Go.Rx
open Go Go.RowKit Go.Lib Go.Proofs.YtonoamdonmbkpaaDoor
set_option linter.unusedVariables false
set_option linter.unusedSimpArgs false
theorem put_ok {k : Fk} {o o' : Opn} {w : List Int} (h : putF k o w = some o') (ho : OpnOk o) : OpnOk o' := by
  obtain ⟨a1, a2, a3, a4, a5, a6, a7, a8⟩ := ho
  cases k <;> simp only [putF, Option.map_eq_some_iff, Option.bind_eq_some_iff] at h
  case name =>
    split at h
    · simp only [Option.some.injEq] at h; subst h; exact ⟨a1, a2, a3, a4, a5, a6, a7, a8⟩
    · cases h
  case member =>
    obtain ⟨n, h1, h2⟩ := h
    have hb := (within_some h1).2
    split at h2
    · simp only [Option.some.injEq] at h2; subst h2; exact ⟨by show 0 ≤ (n : Int) ∧ (n : Int) ≤ _; omega, a2, a3, a4, a5, a6, a7, a8⟩
    · cases h2
  case price => obtain ⟨n, h1, rfl⟩ := h; have hb := (within_some h1).2; exact ⟨a1, by show _ ≤ (n : Int) ∧ (n : Int) ≤ _; omega, a3, a4, a5, a6, a7, a8⟩
  case count => obtain ⟨n, h1, rfl⟩ := h; have hb := (within_some h1).2; exact ⟨a1, a2, by show _ ≤ (n : Int) ∧ (n : Int) ≤ _; omega, a4, a5, a6, a7, a8⟩
  case ord => obtain ⟨n, h1, rfl⟩ := h; have hb := (within_some h1).2; exact ⟨a1, a2, a3, by show _ ≤ (n : Int) ∧ (n : Int) ≤ _; omega, a5, a6, a7, a8⟩
  case opn => obtain ⟨n, h1, rfl⟩ := h; have hb := (within_some h1).2; exact ⟨a1, a2, a3, a4, by show _ ≤ (n : Int) ∧ (n : Int) ≤ _; omega, a6, a7, a8⟩
  case lcount => obtain ⟨n, h1, rfl⟩ := h; have hb := (within_some h1).2; exact ⟨a1, a2, a3, a4, a5, by show _ ≤ (n : Int) ∧ (n : Int) ≤ _; omega, a7, a8⟩
  case pos => obtain ⟨n, h1, rfl⟩ := h; have hb := (within_some h1).2; exact ⟨a1, a2, a3, a4, a5, a6, by show _ ≤ (n : Int) ∧ (n : Int) ≤ _; omega, a8⟩
  case worth => obtain ⟨n, h1, rfl⟩ := h; have hb := (within_some h1).2; exact ⟨a1, a2, a3, a4, a5, a6, a7, by show _ ≤ (n : Int) ∧ (n : Int) ≤ _; omega⟩
theorem op0_ok (s : ByteArray) : OpnOk { op0 with word := s } := by
  refine ⟨?_, ?_, ?_, ?_, ?_, ?_, ?_, ?_⟩ <;> (show _ ≤ (0 : Int) ∧ (0 : Int) ≤ _; decide)
theorem parseK_fine : ∀ (ks : List Fk) (o : Opn) (R : List Int) (p : Nat), OpnOk o → OpnOk (parseK ks o R p).1
  | [], o, [], p, h => h
  | [], o, y :: R, p, h => op0_ok _
  | k :: ks, o, [], p, h => op0_ok _
  | k :: ks, o, y :: R, p, h => by
    simp only [parseK]
    cases hp : putF k o (R.take (firstF 32 R)) with
    | none => exact op0_ok _
    | some o' => exact parseK_fine ks o' _ _ (put_ok hp h)
theorem parse_fine (F : List Int) : OpnOk (parseF F).1 := by
  unfold parseF
  split
  · exact op0_ok _
  · cases hs : shapeF (strOf (F.take (firstF 32 F))) with
    | none => exact op0_ok _
    | some ks => exact parseK_fine ks _ _ _ (op0_ok _)
def settleL : List Int := [115, 101, 116, 116, 108, 101]
theorem haltS_print : printF { op0 with word := ⟨#[104, 97, 108, 116]⟩, name := ⟨#[65, 66, 67]⟩ } = (⟨#[104, 97, 108, 116, 32, 65, 66, 67]⟩, 0) := by decide +kernel
set_option maxHeartbeats 4000000 in
set_option maxRecDepth 100000 in
theorem lawForms27 {w : World} {s : ByteArray} {o : Opn} (hs : s.size ≤ 281474976710656) (ho : OpnOk o) (hnm : o.name.size ≤ 140737488355328) (hL : Laid w) :
    Spec Go.Proofs.Tryd.prog 4 #[.string s, .agg o.enc.toArray] w [] (fun u _ => u = .bool true) := by
  obtain ⟨F, hF⟩ : ∃ F, F = bytesOf s := ⟨_, rfl⟩
  have hsF : s = strOf F := by rw [hF, strOf_bytes]
  have hB : isBytes F := by rw [hF]; exact bytesOf_range s
  have hl : F.length ≤ 281474976710656 := by rw [hF, bytesOf_length]; exact hs
  subst hsF
  clear hF
  have hfine := parse_fine F
  have hpp := fun x => parse_print (F := F) (x := x) hB
  have hz := parseF_zero (F := F)
  have hlaw := fun x => line_parsed (F := F) (x := x) hB
  have hp2 := fun t => print_parse (o := o) (t := t)
  have hpsz : ∀ t, printF o = (t, 0) → t.size ≤ 281474976710656 := fun t h => by
    unfold printF at h
    cases hsh : shapeF o.word with
    | none => rw [hsh] at h; simp at h
    | some ks =>
      rw [hsh] at h
      simp only at h
      split at h
      · have h2 := words_len ho hsh
        simp only [Prod.mk.injEq, and_true] at h
        rw [← h, strOf_size]
        omega
      · simp at h
  obtain ⟨⟨po, pa, pe⟩, hPF⟩ : ∃ q, parseF F = q := ⟨_, rfl⟩
  obtain ⟨⟨ts, te⟩, hPR⟩ : ∃ q, printF o = q := ⟨_, rfl⟩
  rw [hPF] at hpp hfine hz hlaw
  rw [hPR] at hp2 hpsz
  have h1 : ∀ w', Laid w' → Spec Go.Proofs.Tryd.prog 5 #[.string (strOf F)] w' [] (fun u _ => u = .tuple #[.agg po.enc.toArray, .int .i64 pa, .int .i64 pe]) := fun w' h => by have h := conParseL (w := w') hB hl h; rw [hPF] at h; exact h
  have h3 : ∀ w', Laid w' → Spec Go.Proofs.Tryd.prog 7 #[.agg o.enc.toArray] w' [] (fun u _ => u = .tuple #[.string ts, .int .i64 te]) := fun w' h => by have h := conPrint (w := w') ho hnm h; rw [hPR] at h; exact h
  have h4 : pe = 0 → ∀ w', Laid w' → Spec Go.Proofs.Tryd.prog 7 #[.agg po.enc.toArray] w' [] (fun u _ => u = .tuple #[.string (strOf F), .int .i64 0]) := fun he w' h => by
    have hpa := hz he
    simp only at hpa
    subst he hpa
    obtain ⟨_, _, _, hlw, _⟩ := hlaw po rfl
    have hn8 := hlw.name
    have h := conPrint (w := w') (o := po) hfine (by omega) h
    rw [hpp po rfl] at h
    exact h
  have h5 : te = 0 → ∀ w', Laid w' → Spec Go.Proofs.Tryd.prog 5 #[.string ts] w' [] (fun u _ => u = .tuple #[.agg o.enc.toArray, .int .i64 0, .int .i64 0]) := fun he w' h => by
    subst he
    have h := conParseL (w := w') (F := bytesOf ts) (bytesOf_range ts) (by rw [bytesOf_length]; exact hpsz ts rfl) h
    rw [strOf_bytes, hp2 ts rfl] at h
    exact h
  obtain ⟨o6, ho6⟩ : ∃ o6 : Opn, o6 = { op0 with word := ⟨#[104, 97, 108, 116]⟩, name := ⟨#[65, 66, 67]⟩ } := ⟨_, rfl⟩
  have h6 : ∀ w', Laid w' → Spec Go.Proofs.Tryd.prog 7 #[.agg o6.enc.toArray] w' [] (fun u _ => u = .tuple #[.string ⟨#[104, 97, 108, 116, 32, 65, 66, 67]⟩, .int .i64 0]) := fun w' h => by
    have hk : OpnOk o6 := by
      rw [ho6]
      refine ⟨?_, ?_, ?_, ?_, ?_, ?_, ?_, ?_⟩ <;> (show _ ≤ (0 : Int) ∧ (0 : Int) ≤ _; decide)
    have h := conPrint (w := w') (o := o6) hk (by rw [ho6]; decide) h
    rw [ho6, haltS_print, ← ho6] at h
    exact h
  have he6 : o6.enc = [.string ⟨#[104, 97, 108, 116]⟩, .string ⟨#[65, 66, 67]⟩, .int .u32 0, .int .i64 0, .int .i64 0, .int .u64 0, .int .u64 0, .int .i64 0, .int .u64 0, .int .u64 0, .bool false] := by rw [ho6]; rfl
  refine Spec.enter (fn := Go.Proofs.Tryd.f4) (n := 66) [.string (strOf F), .agg o.enc.toArray] Go.Proofs.Tryd.func4 (by kernel_rfl) rfl Go.Proofs.Tryd.ntmps4 Go.Proofs.Tryd.results4 rfl (Own.nil _) ?_
  refine JC.rs ?_
  refine Seq.box (cs := [_, _, _, _, _, _, _, _, _, _, _]) (k := ?_); intro b3
  refine Seq.p rfl Ev.assign ?_
  refine Seq.nil ?_
  refine JC.rs ?_
  refine Seq.p rfl Ev.move ?_
  refine Seq.callP rfl (fun w' hw => h1 w' (hL.upd hw)) ?_
  refine Seq.p rfl Ev.move ?_
  refine Seq.p rfl Ev.extract ?_
  refine Seq.p rfl Ev.extract ?_
  refine Seq.p rfl Ev.extract ?_
  refine Seq.alloc (cs := [_, _, _, _, _, _, _, _, _, _, _]) (hz := z.api_Operation) (k := ?_); intro b5
  refine Seq.storeTo (cs' := po.enc) sz.api_Operation (hH := At.z) (hfit := Nat.le_of_ble_eq_true rfl) (hcs := rfl) (k := ?_)
  refine Seq.p rfl Ev.assign ?_
  refine Seq.p rfl Ev.assign ?_
  refine Seq.nil ?_
  refine JC.seq ?_
  refine JC.rs ?_
  refine Seq.p rfl Ev.move ?_
  refine Seq.p rfl Ev.eq ?_
  refine Seq.nil ?_
  first | refine JC.c (ht := fun c22 => ?_) (hf := fun c22 => ?_) | refine JC.cb (ht := fun c22 => ?_) (hf := fun c22 => ?_)
  · -- then_t22
    refine JC.rs ?_
    refine Seq.p rfl (Ev.ldBA (cs := po.enc) ag.api_Operation) ?_
    refine Seq.callP rfl (fun w' hw => h4 c22 w' (hL.upd hw)) ?_
    refine Seq.p rfl Ev.move ?_
    refine Seq.p rfl Ev.extract ?_
    refine Seq.p rfl Ev.extract ?_
    refine Seq.p rfl Ev.assign ?_
    refine Seq.p rfl Ev.assign ?_
    refine Seq.nil ?_
    refine JC.rs ?_
    refine Seq.p rfl Ev.move ?_
    refine Seq.p rfl Ev.move ?_
    refine Seq.p rfl Ev.neStr ?_
    refine Seq.p rfl Ev.move ?_
    refine Seq.orG (D := [31, 32, 33, 34]) (d := 31) (t := 34) (k := 3) (hn := fun h31 => ?_) (hx := ?_)
    · repeat (first | refine Seq.gn rfl rfl rfl rfl ?_ | refine Seq.gu rfl rfl rfl ?_)
      refine Seq.p rfl Ev.pickT ?_
      exact Seq.nil ⟨rfl, (by repeat (first | with_reducible exact Off.refl | refine Off.upd ?_ rfl | exact Off.mix | refine Off.mix2 ?_ rfl)), Look.here⟩
    apply Exists.intro
    refine ⟨fun h31 => ?_, fun u34 => ?_⟩
    · try simp only [decide_eq_true_eq, decide_eq_false_iff_not, Bool.and_eq_true, Bool.or_eq_true, Bool.not_eq_true', Bool.not_eq_false', Bool.or_eq_false_iff, Bool.and_eq_false_imp] at h31
      refine Seq.gy rfl rfl rfl ?_
      refine Seq.p rfl Ev.move ?_
      refine Seq.gy rfl rfl rfl ?_
      refine Seq.p rfl Ev.ne ?_
      refine Seq.p rfl Ev.pickF ?_
      exact Seq.nil ⟨rfl, (by repeat (first | with_reducible exact Off.refl | refine Off.upd ?_ rfl | exact Off.mix | refine Off.mix2 ?_ rfl)), Look.here⟩
    refine Seq.nil ?_
    first | refine JC.c (ht := fun c34 => ?_) (hf := fun c34 => ?_) | refine JC.cb (ht := fun c34 => ?_) (hf := fun c34 => ?_)
    · -- then_t34
      simp at c34
    · -- else_t34
      refine JC.skip ?_
      refine JC.rs ?_
      refine Seq.p rfl (Ev.ldBA (cs := o.enc) ag.api_Operation) ?_
      refine Seq.callP rfl (fun w' hw => h3 w' (hL.upd hw)) ?_
      refine Seq.p rfl Ev.move ?_
      refine Seq.p rfl Ev.extract ?_
      refine Seq.p rfl Ev.extract ?_
      refine Seq.p rfl Ev.assign ?_
      refine Seq.p rfl Ev.assign ?_
      refine Seq.nil ?_
      refine JC.seq ?_
      refine JC.rs ?_
      refine Seq.p rfl Ev.move ?_
      refine Seq.p rfl Ev.eq ?_
      refine Seq.nil ?_
      first | refine JC.c (ht := fun c41 => ?_) (hf := fun c41 => ?_) | refine JC.cb (ht := fun c41 => ?_) (hf := fun c41 => ?_)
      · -- then_t41
        refine JC.rs ?_
        refine Seq.p rfl Ev.move ?_
        refine Seq.callP rfl (fun w' hw => h5 c41 w' (hL.upd hw)) ?_
        refine Seq.p rfl Ev.move ?_
        refine Seq.p rfl Ev.extract ?_
        refine Seq.p rfl Ev.extract ?_
        refine Seq.p rfl Ev.extract ?_
        refine Seq.alloc (cs := [_, _, _, _, _, _, _, _, _, _, _]) (hz := z.api_Operation) (k := ?_); intro b12
        refine Seq.storeTo (cs' := o.enc) sz.api_Operation (hH := At.z) (hfit := Nat.le_of_ble_eq_true rfl) (hcs := rfl) (k := ?_)
        refine Seq.p rfl Ev.assign ?_
        refine Seq.p rfl Ev.assign ?_
        refine Seq.nil ?_
        refine JC.rs ?_
        refine Seq.p rfl (Ev.ldBA (cs := o.enc) ag.api_Operation) ?_
        refine Seq.p rfl (Ev.ldBA (cs := o.enc) ag.api_Operation) ?_
        refine Seq.p rfl (Ev.as (v' := .bool false) (by rw [Opn.eqL_enc]; simp) (Ev.neAg (xs := o.enc) (ys := o.enc) so.api_Operation ag.api_Operation gd.api_Operation)) ?_
        refine Seq.p rfl Ev.move ?_
        refine Seq.orG (D := [51, 52, 53, 54]) (d := 51) (t := 54) (k := 3) (hn := fun h51 => ?_) (hx := ?_)
        · repeat (first | refine Seq.gn rfl rfl rfl rfl ?_ | refine Seq.gu rfl rfl rfl ?_)
          refine Seq.p rfl Ev.pickT ?_
          exact Seq.nil ⟨rfl, (by repeat (first | with_reducible exact Off.refl | refine Off.upd ?_ rfl | exact Off.mix | refine Off.mix2 ?_ rfl)), Look.here⟩
        apply Exists.intro
        refine ⟨fun h51 => ?_, fun u54 => ?_⟩
        · try simp only [decide_eq_true_eq, decide_eq_false_iff_not, Bool.and_eq_true, Bool.or_eq_true, Bool.not_eq_true', Bool.not_eq_false', Bool.or_eq_false_iff, Bool.and_eq_false_imp] at h51
          refine Seq.gy rfl rfl rfl ?_
          refine Seq.p rfl Ev.move ?_
          refine Seq.gy rfl rfl rfl ?_
          refine Seq.p rfl Ev.ne ?_
          refine Seq.p rfl Ev.pickF ?_
          exact Seq.nil ⟨rfl, (by repeat (first | with_reducible exact Off.refl | refine Off.upd ?_ rfl | exact Off.mix | refine Off.mix2 ?_ rfl)), Look.here⟩
        refine Seq.nil ?_
        first | refine JC.c (ht := fun c54 => ?_) (hf := fun c54 => ?_) | refine JC.cb (ht := fun c54 => ?_) (hf := fun c54 => ?_)
        · -- then_t54
          simp at c54
        · -- else_t54
          refine JC.skip ?_
          refine JC.rs ?_
          refine Seq.p rfl (Ev.buildN o6.enc pl.api_Operation z.api_Operation (hcs := by rw [he6]; rfl)) ?_
          refine Seq.callP rfl (fun w' hw => h6 w' (hL.upd hw)) ?_
          refine Seq.p rfl Ev.move ?_
          refine Seq.p rfl Ev.extract ?_
          refine Seq.p rfl Ev.extract ?_
          refine Seq.p rfl Ev.assign ?_
          refine Seq.p rfl Ev.assign ?_
          refine Seq.nil ?_
          refine JC.rs ?_
          refine Seq.p rfl Ev.move ?_
          refine Seq.p rfl Ev.eqStr ?_
          refine Seq.p rfl Ev.move ?_
          refine Seq.andG (D := [62, 63, 64, 65]) (d := 62) (t := 65) (k := 3) (hn := fun h62 => ?_) (hx := ?_)
          · repeat (first | refine Seq.gn rfl rfl rfl rfl ?_ | refine Seq.gu rfl rfl rfl ?_)
            refine Seq.p rfl Ev.pickF ?_
            exact Seq.nil ⟨rfl, (by repeat (first | with_reducible exact Off.refl | refine Off.upd ?_ rfl | exact Off.mix | refine Off.mix2 ?_ rfl)), Look.here⟩
          apply Exists.intro
          refine ⟨fun h62 => ?_, fun u65 => ?_⟩
          · try simp only [decide_eq_true_eq, decide_eq_false_iff_not, Bool.and_eq_true, Bool.or_eq_true, Bool.not_eq_true', Bool.not_eq_false', Bool.or_eq_false_iff, Bool.and_eq_false_imp] at h62
            refine Seq.gy rfl rfl rfl ?_
            refine Seq.p rfl Ev.move ?_
            refine Seq.gy rfl rfl rfl ?_
            refine Seq.p rfl Ev.eq ?_
            refine Seq.p rfl Ev.pickT ?_
            exact Seq.nil ⟨rfl, (by repeat (first | with_reducible exact Off.refl | refine Off.upd ?_ rfl | exact Off.mix | refine Off.mix2 ?_ rfl)), Look.here⟩
          refine Seq.p rfl Ev.assign ?_
          refine Seq.nil ?_
          refine JC.ret ?_
          show retQ _ _ _ _ _ _ _ _
          refine ret1 (hp := Part.nil _) (hpost := ?_)
          simp
      · -- else_t41
        refine JC.skip ?_
        refine JC.rs ?_
        refine Seq.p rfl (Ev.buildN o6.enc pl.api_Operation z.api_Operation (hcs := by rw [he6]; rfl)) ?_
        refine Seq.callP rfl (fun w' hw => h6 w' (hL.upd hw)) ?_
        refine Seq.p rfl Ev.move ?_
        refine Seq.p rfl Ev.extract ?_
        refine Seq.p rfl Ev.extract ?_
        refine Seq.p rfl Ev.assign ?_
        refine Seq.p rfl Ev.assign ?_
        refine Seq.nil ?_
        refine JC.rs ?_
        refine Seq.p rfl Ev.move ?_
        refine Seq.p rfl Ev.eqStr ?_
        refine Seq.p rfl Ev.move ?_
        refine Seq.andG (D := [62, 63, 64, 65]) (d := 62) (t := 65) (k := 3) (hn := fun h62 => ?_) (hx := ?_)
        · repeat (first | refine Seq.gn rfl rfl rfl rfl ?_ | refine Seq.gu rfl rfl rfl ?_)
          refine Seq.p rfl Ev.pickF ?_
          exact Seq.nil ⟨rfl, (by repeat (first | with_reducible exact Off.refl | refine Off.upd ?_ rfl | exact Off.mix | refine Off.mix2 ?_ rfl)), Look.here⟩
        apply Exists.intro
        refine ⟨fun h62 => ?_, fun u65 => ?_⟩
        · try simp only [decide_eq_true_eq, decide_eq_false_iff_not, Bool.and_eq_true, Bool.or_eq_true, Bool.not_eq_true', Bool.not_eq_false', Bool.or_eq_false_iff, Bool.and_eq_false_imp] at h62
          refine Seq.gy rfl rfl rfl ?_
          refine Seq.p rfl Ev.move ?_
          refine Seq.gy rfl rfl rfl ?_
          refine Seq.p rfl Ev.eq ?_
          refine Seq.p rfl Ev.pickT ?_
          exact Seq.nil ⟨rfl, (by repeat (first | with_reducible exact Off.refl | refine Off.upd ?_ rfl | exact Off.mix | refine Off.mix2 ?_ rfl)), Look.here⟩
        refine Seq.p rfl Ev.assign ?_
        refine Seq.nil ?_
        refine JC.ret ?_
        show retQ _ _ _ _ _ _ _ _
        refine ret1 (hp := Part.nil _) (hpost := ?_)
        simp
  · -- else_t22
    refine JC.skip ?_
    refine JC.rs ?_
    refine Seq.p rfl (Ev.ldBA (cs := o.enc) ag.api_Operation) ?_
    refine Seq.callP rfl (fun w' hw => h3 w' (hL.upd hw)) ?_
    refine Seq.p rfl Ev.move ?_
    refine Seq.p rfl Ev.extract ?_
    refine Seq.p rfl Ev.extract ?_
    refine Seq.p rfl Ev.assign ?_
    refine Seq.p rfl Ev.assign ?_
    refine Seq.nil ?_
    refine JC.seq ?_
    refine JC.rs ?_
    refine Seq.p rfl Ev.move ?_
    refine Seq.p rfl Ev.eq ?_
    refine Seq.nil ?_
    first | refine JC.c (ht := fun c41 => ?_) (hf := fun c41 => ?_) | refine JC.cb (ht := fun c41 => ?_) (hf := fun c41 => ?_)
    · -- then_t41
      refine JC.rs ?_
      refine Seq.p rfl Ev.move ?_
      refine Seq.callP rfl (fun w' hw => h5 c41 w' (hL.upd hw)) ?_
      refine Seq.p rfl Ev.move ?_
      refine Seq.p rfl Ev.extract ?_
      refine Seq.p rfl Ev.extract ?_
      refine Seq.p rfl Ev.extract ?_
      refine Seq.alloc (cs := [_, _, _, _, _, _, _, _, _, _, _]) (hz := z.api_Operation) (k := ?_); intro b12
      refine Seq.storeTo (cs' := o.enc) sz.api_Operation (hH := At.z) (hfit := Nat.le_of_ble_eq_true rfl) (hcs := rfl) (k := ?_)
      refine Seq.p rfl Ev.assign ?_
      refine Seq.p rfl Ev.assign ?_
      refine Seq.nil ?_
      refine JC.rs ?_
      refine Seq.p rfl (Ev.ldBA (cs := o.enc) ag.api_Operation) ?_
      refine Seq.p rfl (Ev.ldBA (cs := o.enc) ag.api_Operation) ?_
      refine Seq.p rfl (Ev.as (v' := .bool false) (by rw [Opn.eqL_enc]; simp) (Ev.neAg (xs := o.enc) (ys := o.enc) so.api_Operation ag.api_Operation gd.api_Operation)) ?_
      refine Seq.p rfl Ev.move ?_
      refine Seq.orG (D := [51, 52, 53, 54]) (d := 51) (t := 54) (k := 3) (hn := fun h51 => ?_) (hx := ?_)
      · repeat (first | refine Seq.gn rfl rfl rfl rfl ?_ | refine Seq.gu rfl rfl rfl ?_)
        refine Seq.p rfl Ev.pickT ?_
        exact Seq.nil ⟨rfl, (by repeat (first | with_reducible exact Off.refl | refine Off.upd ?_ rfl | exact Off.mix | refine Off.mix2 ?_ rfl)), Look.here⟩
      apply Exists.intro
      refine ⟨fun h51 => ?_, fun u54 => ?_⟩
      · try simp only [decide_eq_true_eq, decide_eq_false_iff_not, Bool.and_eq_true, Bool.or_eq_true, Bool.not_eq_true', Bool.not_eq_false', Bool.or_eq_false_iff, Bool.and_eq_false_imp] at h51
        refine Seq.gy rfl rfl rfl ?_
        refine Seq.p rfl Ev.move ?_
        refine Seq.gy rfl rfl rfl ?_
        refine Seq.p rfl Ev.ne ?_
        refine Seq.p rfl Ev.pickF ?_
        exact Seq.nil ⟨rfl, (by repeat (first | with_reducible exact Off.refl | refine Off.upd ?_ rfl | exact Off.mix | refine Off.mix2 ?_ rfl)), Look.here⟩
      refine Seq.nil ?_
      first | refine JC.c (ht := fun c54 => ?_) (hf := fun c54 => ?_) | refine JC.cb (ht := fun c54 => ?_) (hf := fun c54 => ?_)
      · -- then_t54
        simp at c54
      · -- else_t54
        refine JC.skip ?_
        refine JC.rs ?_
        refine Seq.p rfl (Ev.buildN o6.enc pl.api_Operation z.api_Operation (hcs := by rw [he6]; rfl)) ?_
        refine Seq.callP rfl (fun w' hw => h6 w' (hL.upd hw)) ?_
        refine Seq.p rfl Ev.move ?_
        refine Seq.p rfl Ev.extract ?_
        refine Seq.p rfl Ev.extract ?_
        refine Seq.p rfl Ev.assign ?_
        refine Seq.p rfl Ev.assign ?_
        refine Seq.nil ?_
        refine JC.rs ?_
        refine Seq.p rfl Ev.move ?_
        refine Seq.p rfl Ev.eqStr ?_
        refine Seq.p rfl Ev.move ?_
        refine Seq.andG (D := [62, 63, 64, 65]) (d := 62) (t := 65) (k := 3) (hn := fun h62 => ?_) (hx := ?_)
        · repeat (first | refine Seq.gn rfl rfl rfl rfl ?_ | refine Seq.gu rfl rfl rfl ?_)
          refine Seq.p rfl Ev.pickF ?_
          exact Seq.nil ⟨rfl, (by repeat (first | with_reducible exact Off.refl | refine Off.upd ?_ rfl | exact Off.mix | refine Off.mix2 ?_ rfl)), Look.here⟩
        apply Exists.intro
        refine ⟨fun h62 => ?_, fun u65 => ?_⟩
        · try simp only [decide_eq_true_eq, decide_eq_false_iff_not, Bool.and_eq_true, Bool.or_eq_true, Bool.not_eq_true', Bool.not_eq_false', Bool.or_eq_false_iff, Bool.and_eq_false_imp] at h62
          refine Seq.gy rfl rfl rfl ?_
          refine Seq.p rfl Ev.move ?_
          refine Seq.gy rfl rfl rfl ?_
          refine Seq.p rfl Ev.eq ?_
          refine Seq.p rfl Ev.pickT ?_
          exact Seq.nil ⟨rfl, (by repeat (first | with_reducible exact Off.refl | refine Off.upd ?_ rfl | exact Off.mix | refine Off.mix2 ?_ rfl)), Look.here⟩
        refine Seq.p rfl Ev.assign ?_
        refine Seq.nil ?_
        refine JC.ret ?_
        show retQ _ _ _ _ _ _ _ _
        refine ret1 (hp := Part.nil _) (hpost := ?_)
        simp
    · -- else_t41
      refine JC.skip ?_
      refine JC.rs ?_
      refine Seq.p rfl (Ev.buildN o6.enc pl.api_Operation z.api_Operation (hcs := by rw [he6]; rfl)) ?_
      refine Seq.callP rfl (fun w' hw => h6 w' (hL.upd hw)) ?_
      refine Seq.p rfl Ev.move ?_
      refine Seq.p rfl Ev.extract ?_
      refine Seq.p rfl Ev.extract ?_
      refine Seq.p rfl Ev.assign ?_
      refine Seq.p rfl Ev.assign ?_
      refine Seq.nil ?_
      refine JC.rs ?_
      refine Seq.p rfl Ev.move ?_
      refine Seq.p rfl Ev.eqStr ?_
      refine Seq.p rfl Ev.move ?_
      refine Seq.andG (D := [62, 63, 64, 65]) (d := 62) (t := 65) (k := 3) (hn := fun h62 => ?_) (hx := ?_)
      · repeat (first | refine Seq.gn rfl rfl rfl rfl ?_ | refine Seq.gu rfl rfl rfl ?_)
        refine Seq.p rfl Ev.pickF ?_
        exact Seq.nil ⟨rfl, (by repeat (first | with_reducible exact Off.refl | refine Off.upd ?_ rfl | exact Off.mix | refine Off.mix2 ?_ rfl)), Look.here⟩
      apply Exists.intro
      refine ⟨fun h62 => ?_, fun u65 => ?_⟩
      · try simp only [decide_eq_true_eq, decide_eq_false_iff_not, Bool.and_eq_true, Bool.or_eq_true, Bool.not_eq_true', Bool.not_eq_false', Bool.or_eq_false_iff, Bool.and_eq_false_imp] at h62
        refine Seq.gy rfl rfl rfl ?_
        refine Seq.p rfl Ev.move ?_
        refine Seq.gy rfl rfl rfl ?_
        refine Seq.p rfl Ev.eq ?_
        refine Seq.p rfl Ev.pickT ?_
        exact Seq.nil ⟨rfl, (by repeat (first | with_reducible exact Off.refl | refine Off.upd ?_ rfl | exact Off.mix | refine Off.mix2 ?_ rfl)), Look.here⟩
      refine Seq.p rfl Ev.assign ?_
      refine Seq.nil ?_
      refine JC.ret ?_
      show retQ _ _ _ _ _ _ _ _
      refine ret1 (hp := Part.nil _) (hpost := ?_)
      simp
end Go.Rx
/- From the reading of a call's arguments to an operation. -/
namespace Go.Rx
open Go Go.RowKit Go.WideShapes
set_option linter.unusedVariables false
theorem numW {k : IntKind} {v : Value} (h : isSort (.int k) v = true) (hw : wfV v = true) : ∃ n, v = .int k n ∧ k.min ≤ n ∧ n ≤ k.max := by
  obtain ⟨n, rfl⟩ := isSort_int h
  refine ⟨n, rfl, ?_⟩
  have h2 : (Lit.int k n).wf = true := hw
  unfold Lit.wf at h2
  rw [Bool.and_eq_true] at h2
  exact ⟨of_decide_eq_true h2.1, of_decide_eq_true h2.2⟩
theorem strW {v : Value} (h : isSort .str v = true) : ∃ s, v = .string s := by cases v <;> simp [isSort] at h; exact ⟨_, rfl⟩
theorem boolW {v : Value} (h : isSort .bool v = true) : ∃ b, v = .bool b := by cases v <;> simp [isSort] at h; exact ⟨_, rfl⟩
theorem str_lim27 {H : Type} {o : ByteArray} (h : Light Go.Proofs.Tryd.prog 9 (DataW.lit (Lit.string o.data.toList) : DataW H)) : o.size ≤ 281474976710656 := by
  have h1 := h o.data.toList.length (by simp [DataW.weights])
  have e2 : o.data.toList.length = o.size := by simp
  simp only [reachBytes] at h1
  omega
set_option maxRecDepth 100000 in
theorem open_opn {H : Type} {enc : TypeId × Value → H} {W : World} {base : Nat} {v : Value} {d : DataW H} {p : List MemPlace} (hv : Value.okWide Go.Proofs.Tryd.prog W .any base 27 v) (h : DataW.Trod enc Go.Proofs.Tryd.prog W 0 (fun _ => true) true 27 v d p) (hl : Light Go.Proofs.Tryd.prog 27 d) :
    ∃ o : Opn, v = .agg o.enc.toArray ∧ OpnOk o ∧ o.name.size ≤ 140737488355328 := by
  obtain ⟨cs, rfl, hcs⟩ := okWide_struct Go.Proofs.Tryd.underlying27 hv
  obtain ⟨fuel, hf⟩ := h
  have e : (Value.agg cs).cells.toList = cs.toList := rfl
  rw [e] at hf
  have hp := trod_plain 20 _ _ so.api_Operation fuel _ _ hf
  obtain ⟨ha, hb⟩ := hp
  obtain ⟨c0, r0, q0, i0, ha⟩ := areSorts_cons ha
  obtain ⟨c1, r1, rfl, i1, ha⟩ := areSorts_cons ha
  obtain ⟨c2, r2, rfl, i2, ha⟩ := areSorts_cons ha
  obtain ⟨c3, r3, rfl, i3, ha⟩ := areSorts_cons ha
  obtain ⟨c4, r4, rfl, i4, ha⟩ := areSorts_cons ha
  obtain ⟨c5, r5, rfl, i5, ha⟩ := areSorts_cons ha
  obtain ⟨c6, r6, rfl, i6, ha⟩ := areSorts_cons ha
  obtain ⟨c7, r7, rfl, i7, ha⟩ := areSorts_cons ha
  obtain ⟨c8, r8, rfl, i8, ha⟩ := areSorts_cons ha
  obtain ⟨c9, r9, rfl, i9, ha⟩ := areSorts_cons ha
  obtain ⟨c10, r10, rfl, i10, ha⟩ := areSorts_cons ha
  obtain rfl := areSorts_nil ha
  rw [q0] at hb
  simp only [List.all_cons, List.all_nil, Bool.and_true, Bool.and_eq_true] at hb
  obtain ⟨s0, rfl⟩ := strW i0
  obtain ⟨s1, rfl⟩ := strW i1
  obtain ⟨n2, rfl, w2⟩ := numW i2 hb.2.2.1
  obtain ⟨n3, rfl, w3⟩ := numW i3 hb.2.2.2.1
  obtain ⟨n4, rfl, w4⟩ := numW i4 hb.2.2.2.2.1
  obtain ⟨n5, rfl, w5⟩ := numW i5 hb.2.2.2.2.2.1
  obtain ⟨n6, rfl, w6⟩ := numW i6 hb.2.2.2.2.2.2.1
  obtain ⟨n7, rfl, w7⟩ := numW i7 hb.2.2.2.2.2.2.2.1
  obtain ⟨n8, rfl, w8⟩ := numW i8 hb.2.2.2.2.2.2.2.2.1
  obtain ⟨n9, rfl, w9⟩ := numW i9 hb.2.2.2.2.2.2.2.2.2.1
  obtain ⟨b10, rfl⟩ := boolW i10
  refine ⟨⟨s0, s1, n2, n3, n4, n5, n6, n7, n8, n9, b10⟩, ?_, ⟨w2, w3, w4, w5, w6, w7, w8, w9⟩, ?_⟩
  · congr 1
    apply Array.ext'
    rw [q0]
    rfl
  · show s1.size ≤ _
    obtain ⟨ys, m, _, hd, _, hyl, hg⟩ := DataW.trod_struct Go.Proofs.Tryd.underlying27 hf
    obtain ⟨rfl, rfl⟩ := Prod.mk.inj hd
    have h1 : ys.length = 7 := hyl
    have h2 := hg 1 _ rfl
    have h3 : ys[1]? = some ys[1] := List.getElem?_eq_getElem (by omega)
    rw [h3] at h2
    obtain ⟨s', e1, e2, _⟩ := DataW.trod_string Go.Proofs.Tryd.underlying9 h2
    have h4 := light_field Go.Proofs.Tryd.underlying27 hl (i := 1) rfl h3
    have hc : (Go.Proofs.Tryd.prog.cellsOf 9) = 1 := by kernel_rfl
    have e3 : s' = s1 := by
      have e1' : (cs.toList.drop 1).take (Go.Proofs.Tryd.prog.cellsOf 9) = [.string s'] := e1
      rw [hc, q0] at e1'
      simp at e1'
      exact e1'.symm
    subst e3
    have h5 := h4 s'.data.toList.length (by rw [e2]; simp [DataW.weights])
    simp only [reachBytes] at h5
    have h6 : s'.data.toList.length = s'.size := by simp
    omega
end Go.Rx
