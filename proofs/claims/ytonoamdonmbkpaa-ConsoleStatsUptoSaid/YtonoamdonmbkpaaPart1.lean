/- Parts of the proof. -/
import Derived.Test.YtonoamdonmbkpaaProg
import Derived.Test.YtonoamdonmbkpaaRxL2
import Derived.KernelRfl
import Derived.Test.YtonoamdonmbkpaaRows
import Derived.Below
import Derived.ChangeOld
import Derived.ShutString
set_option linter.unusedVariables false
set_option linter.unusedSimpArgs false
/- Facts of the types of the program. -/
namespace Go.Rx
open Go
theorem mixed : Go.Proofs.Try.prog.follows .mixedOrders = true := by kernel_rfl
theorem z.console_three : zeroOf Go.Proofs.Try.prog 64 = some (.agg #[.int .u64 0, .int .u64 0, .int .u64 0]) := by kernel_rfl
theorem ar.console_three : arrOf Go.Proofs.Try.prog 64 3 28 1 = true := by kernel_rfl
theorem sc.uint64 : isSc Go.Proofs.Try.prog 28 = true := by kernel_rfl
theorem sz.uint64 : szOf Go.Proofs.Try.prog 28 1 = true := by kernel_rfl
theorem ag.console_three : isAg Go.Proofs.Try.prog 64 3 = true := by kernel_rfl
theorem sz.console_three : szOf Go.Proofs.Try.prog 64 3 = true := by kernel_rfl
theorem fd.console_trade_0 : fldOf Go.Proofs.Try.prog 62 0 0 3 1 = true := by kernel_rfl
theorem sc.int : isSc Go.Proofs.Try.prog 3 = true := by kernel_rfl
theorem it.int : intOfT Go.Proofs.Try.prog 3 .i64 = true := by kernel_rfl
theorem it.uint32 : intOfT Go.Proofs.Try.prog 42 .u32 = true := by kernel_rfl
theorem z.api_Bar : zeroOf Go.Proofs.Try.prog 30 = some (.agg #[.int .i64 0, .int .i64 0, .int .i64 0, .int .i64 0, .int .u64 0, .int .i64 0]) := by kernel_rfl
theorem sl.sl_console_trade : slcOf Go.Proofs.Try.prog 57 62 2 = true := by kernel_rfl
theorem ag.console_trade : isAg Go.Proofs.Try.prog 62 2 = true := by kernel_rfl
theorem z.console_trade : zeroOf Go.Proofs.Try.prog 62 = some (.agg #[.int .i64 0, .int .u64 0]) := by kernel_rfl
theorem sz.console_trade : szOf Go.Proofs.Try.prog 62 2 = true := by kernel_rfl
theorem pl.api_Bar : fieldPlaces Go.Proofs.Try.prog 30 = some [(0, 1), (1, 1), (2, 1), (3, 1), (4, 1), (5, 1)] := by kernel_rfl
theorem sz.api_Bar : szOf Go.Proofs.Try.prog 30 6 = true := by kernel_rfl
theorem fd.api_Bar_1 : fldOf Go.Proofs.Try.prog 30 1 1 3 1 = true := by kernel_rfl
theorem fd.api_Bar_2 : fldOf Go.Proofs.Try.prog 30 2 2 3 1 = true := by kernel_rfl
theorem sz.int : szOf Go.Proofs.Try.prog 3 1 = true := by kernel_rfl
theorem fd.api_Bar_3 : fldOf Go.Proofs.Try.prog 30 3 3 3 1 = true := by kernel_rfl
theorem fd.api_Bar_4 : fldOf Go.Proofs.Try.prog 30 4 4 28 1 = true := by kernel_rfl
theorem fd.console_trade_1 : fldOf Go.Proofs.Try.prog 62 1 1 28 1 = true := by kernel_rfl
theorem fd.api_Bar_5 : fldOf Go.Proofs.Try.prog 30 5 5 3 1 = true := by kernel_rfl
theorem ag.api_Bar : isAg Go.Proofs.Try.prog 30 6 = true := by kernel_rfl
theorem fd.console_Stats_0 : fldOf Go.Proofs.Try.prog 59 0 0 57 1 = true := by kernel_rfl
theorem sc.sl_console_trade : isSc Go.Proofs.Try.prog 57 = true := by kernel_rfl
theorem sl.sl_api_Bar : slcOf Go.Proofs.Try.prog 25 30 6 = true := by kernel_rfl
theorem el.api_Bar : elOf Go.Proofs.Try.prog 30 6 48 = true := by kernel_rfl
theorem sl.sl_api_Event : slcOf Go.Proofs.Try.prog 22 45 13 = true := by kernel_rfl
theorem ag.api_Event : isAg Go.Proofs.Try.prog 45 13 = true := by kernel_rfl
theorem z.api_Event : zeroOf Go.Proofs.Try.prog 45 = some (.agg #[.int .u64 0, .int .i64 0, .int .u64 0, .int .u64 0, .int .u64 0, .int .u32 0, .int .i64 0, .int .i64 0, .int .i64 0, .int .u64 0, .int .u64 0, .int .i64 0, .int .i64 0]) := by kernel_rfl
theorem sz.api_Event : szOf Go.Proofs.Try.prog 45 13 = true := by kernel_rfl
theorem fd.api_Event_1 : fldOf Go.Proofs.Try.prog 45 1 1 3 1 = true := by kernel_rfl
theorem fd.api_Event_8 : fldOf Go.Proofs.Try.prog 45 8 8 3 1 = true := by kernel_rfl
theorem fd.api_Event_9 : fldOf Go.Proofs.Try.prog 45 9 9 28 1 = true := by kernel_rfl
theorem pl.console_trade : fieldPlaces Go.Proofs.Try.prog 62 = some [(0, 1), (1, 1)] := by kernel_rfl
theorem el.console_trade : elOf Go.Proofs.Try.prog 62 2 16 = true := by kernel_rfl
theorem sz.sl_console_trade : szOf Go.Proofs.Try.prog 57 1 = true := by kernel_rfl
theorem z.num_Money : zeroOf Go.Proofs.Try.prog 37 = some (.agg #[.int .u64 0, .int .u64 0, .bool false]) := by kernel_rfl
theorem it.uint64 : intOfT Go.Proofs.Try.prog 28 .u64 = true := by kernel_rfl
theorem pl.num_Money : fieldPlaces Go.Proofs.Try.prog 37 = some [(0, 1), (1, 1), (2, 1)] := by kernel_rfl
theorem sz.num_Money : szOf Go.Proofs.Try.prog 37 3 = true := by kernel_rfl
theorem ag.num_Money : isAg Go.Proofs.Try.prog 37 3 = true := by kernel_rfl
theorem it.int64 : intOfT Go.Proofs.Try.prog 2 .i64 = true := by kernel_rfl
theorem fd.num_Money_2 : fldOf Go.Proofs.Try.prog 37 2 2 4 1 = true := by kernel_rfl
theorem sc.bool : isSc Go.Proofs.Try.prog 4 = true := by kernel_rfl
theorem bl.bool : isBoolT Go.Proofs.Try.prog 4 = true := by kernel_rfl
theorem fd.num_Money_1 : fldOf Go.Proofs.Try.prog 37 1 1 28 1 = true := by kernel_rfl
theorem fd.num_Money_0 : fldOf Go.Proofs.Try.prog 37 0 0 28 1 = true := by kernel_rfl
theorem so.console_three : sorts Go.Proofs.Try.prog 20 64 = some [.int .u64, .int .u64, .int .u64] := by kernel_rfl
theorem gd.console_three : Go.Proofs.Try.prog.eqGuardType Go.Proofs.Try.prog.depth 64 = false := by kernel_rfl
theorem pl.console_Stats : fieldPlaces Go.Proofs.Try.prog 59 = some [(0, 1)] := by kernel_rfl
theorem z.console_Stats : zeroOf Go.Proofs.Try.prog 59 = some (.agg #[.slice none 0 0]) := by kernel_rfl
theorem so.api_Bar : sorts Go.Proofs.Try.prog 20 30 = some [.int .i64, .int .i64, .int .i64, .int .i64, .int .u64, .int .i64] := by kernel_rfl
theorem gd.api_Bar : Go.Proofs.Try.prog.eqGuardType Go.Proofs.Try.prog.depth 30 = false := by kernel_rfl
theorem und.p_console_Stats : Go.Proofs.Try.prog.underlying 23 = some (.pointer 59) := Go.Proofs.Try.underlying23
theorem el.api_Event : elOf Go.Proofs.Try.prog 45 13 104 = true := by kernel_rfl
theorem so.api_Event : sorts Go.Proofs.Try.prog 20 45 = some [.int .u64, .int .i64, .int .u64, .int .u64, .int .u64, .int .u32, .int .i64, .int .i64, .int .i64, .int .u64, .int .u64, .int .i64, .int .i64] := by kernel_rfl
theorem byt.api_Event : Go.Proofs.Try.prog.bytesOf 45 = 104 := by kernel_rfl
theorem z.bourseref27_wide : zeroOf Go.Proofs.Try.prog 80 = some (.agg #[.int .u64 0, .int .u64 0, .int .u64 0, .int .u64 0]) := by kernel_rfl
theorem ar.bourseref27_wide : arrOf Go.Proofs.Try.prog 80 4 28 1 = true := by kernel_rfl
theorem ag.bourseref27_wide : isAg Go.Proofs.Try.prog 80 4 = true := by kernel_rfl
theorem sz.bourseref27_wide : szOf Go.Proofs.Try.prog 80 4 = true := by kernel_rfl
theorem fd.api_Bar_0 : fldOf Go.Proofs.Try.prog 30 0 0 3 1 = true := by kernel_rfl
theorem it.uint : intOfT Go.Proofs.Try.prog 85 .u64 = true := by kernel_rfl
theorem sl.bourseref01_big : slcOf Go.Proofs.Try.prog 52 42 1 = true := by kernel_rfl
theorem sc.uint32 : isSc Go.Proofs.Try.prog 42 = true := by kernel_rfl
theorem z.uint32 : zeroOf Go.Proofs.Try.prog 42 = some (.int .u32 0) := by kernel_rfl
theorem el.uint32 : elOf Go.Proofs.Try.prog 42 1 4 = true := by kernel_rfl
theorem sz.uint32 : szOf Go.Proofs.Try.prog 42 1 = true := by kernel_rfl
theorem z.bourseref01_Money : zeroOf Go.Proofs.Try.prog 54 = some (.agg #[.bool false, .slice none 0 0]) := by kernel_rfl
theorem pl.bourseref01_Money : fieldPlaces Go.Proofs.Try.prog 54 = some [(0, 1), (1, 1)] := by kernel_rfl
theorem sz.bourseref01_Money : szOf Go.Proofs.Try.prog 54 2 = true := by kernel_rfl
theorem ag.bourseref01_Money : isAg Go.Proofs.Try.prog 54 2 = true := by kernel_rfl
theorem fd.bourseref01_Money_0 : fldOf Go.Proofs.Try.prog 54 0 0 4 1 = true := by kernel_rfl
theorem fd.bourseref01_Money_1 : fldOf Go.Proofs.Try.prog 54 1 1 52 1 = true := by kernel_rfl
theorem sc.bourseref01_big : isSc Go.Proofs.Try.prog 52 = true := by kernel_rfl
theorem st.string : isStr Go.Proofs.Try.prog 9 = true := by kernel_rfl
theorem it.uint8 : intOfT Go.Proofs.Try.prog 5 .u8 = true := by kernel_rfl
theorem sl.sl_uint8 : slcOf Go.Proofs.Try.prog 87 5 1 = true := by kernel_rfl
theorem z.uint8 : zeroOf Go.Proofs.Try.prog 5 = some (.int .u8 0) := by kernel_rfl
theorem fd.strings_Builder_0 : fldOf Go.Proofs.Try.prog 90 0 0 88 1 = true := by kernel_rfl
theorem sc.p_strings_Builder : isSc Go.Proofs.Try.prog 88 = true := by kernel_rfl
theorem und.p_strings_Builder : Go.Proofs.Try.prog.underlying 88 = some (.pointer 90) := Go.Proofs.Try.underlying88
theorem sz.p_strings_Builder : szOf Go.Proofs.Try.prog 88 1 = true := by kernel_rfl
theorem fd.strings_Builder_1 : fldOf Go.Proofs.Try.prog 90 1 1 87 1 = true := by kernel_rfl
theorem sc.sl_uint8 : isSc Go.Proofs.Try.prog 87 = true := by kernel_rfl
theorem el.uint8 : elOf Go.Proofs.Try.prog 5 1 1 = true := by kernel_rfl
theorem sz.sl_uint8 : szOf Go.Proofs.Try.prog 87 1 = true := by kernel_rfl
theorem z.strings_Builder : zeroOf Go.Proofs.Try.prog 90 = some (.agg #[.pointer none, .slice none 0 0]) := by kernel_rfl
theorem sc.uint8 : isSc Go.Proofs.Try.prog 5 = true := by kernel_rfl
theorem sl.sl_sl_api_Event : slcOf Go.Proofs.Try.prog 41 22 1 = true := by kernel_rfl
theorem sc.sl_api_Event : isSc Go.Proofs.Try.prog 22 = true := by kernel_rfl
theorem gd.api_Event : Go.Proofs.Try.prog.eqGuardType Go.Proofs.Try.prog.depth 45 = false := by kernel_rfl
theorem pl.api_Event : fieldPlaces Go.Proofs.Try.prog 45 = some [(0, 1), (1, 1), (2, 1), (3, 1), (4, 1), (5, 1), (6, 1), (7, 1), (8, 1), (9, 1), (10, 1), (11, 1), (12, 1)] := by kernel_rfl
theorem ce.api_Event : Go.Proofs.Try.prog.cellsOf 45 = 13 := by kernel_rfl
theorem ce.sl_api_Event : Go.Proofs.Try.prog.cellsOf 22 = 1 := by kernel_rfl
theorem byt.sl_api_Event : Go.Proofs.Try.prog.bytesOf 22 = 24 := by kernel_rfl
end Go.Rx
/- Words of 64 bits: bits.Mul64; numbers of three words, as the program reckons with them. -/
namespace Go.Rx
open Go Go.RowKit
set_option linter.unusedVariables false
set_option linter.unusedSimpArgs false
set_option maxHeartbeats 1000000 in
theorem bitsMul {w : World} {x y : Nat} (hx : x < 18446744073709551616) (hy : y < 18446744073709551616) : Spec Go.Proofs.Try.prog 21 #[.int .u64 x, .int .u64 y] w [] (fun u _ => u = .tuple #[.int .u64 ((x * y / 18446744073709551616 : Nat) : Int), .int .u64 ((x * y % 18446744073709551616 : Nat) : Int)]) := by
  obtain ⟨bd, bt, bw, hhi⟩ := Lib.mul64_hi x y hx hy
  have ba := Lib.half_mul_le (a := x / 4294967296) (b := y / 4294967296) (by omega) (by omega)
  have bb := Lib.half_mul_le (a := x / 4294967296) (b := y % 4294967296) (by omega) (by omega)
  have bc := Lib.half_mul_le (a := x % 4294967296) (b := y / 4294967296) (by omega) (by omega)
  refine Spec.enter (fn := Go.Proofs.Try.f21) (n := 51) [.int .u64 x, .int .u64 y] Go.Proofs.Try.func21 (by kernel_rfl) rfl Go.Proofs.Try.ntmps21 Go.Proofs.Try.results21 rfl (Own.nil _) ?_
  refine JC.rs ?_
  refine Seq.p rfl Ev.assign ?_
  refine Seq.p rfl Ev.assign ?_
  refine Seq.nil ?_
  refine JC.rs ?_
  refine Seq.p rfl Ev.move ?_
  refine Seq.p rfl (Ev.lowNU 32 4294967296 (m := 4294967295)) ?_
  refine Seq.p rfl Ev.assign ?_
  refine Seq.nil ?_
  refine JC.rs ?_
  refine Seq.p rfl Ev.move ?_
  refine Seq.p rfl (Ev.shrNU 4294967296) ?_
  refine Seq.p rfl Ev.assign ?_
  refine Seq.nil ?_
  refine JC.rs ?_
  refine Seq.p rfl Ev.move ?_
  refine Seq.p rfl (Ev.lowNU 32 4294967296 (m := 4294967295)) ?_
  refine Seq.p rfl Ev.assign ?_
  refine Seq.nil ?_
  refine JC.rs ?_
  refine Seq.p rfl Ev.move ?_
  refine Seq.p rfl (Ev.shrNU 4294967296) ?_
  refine Seq.p rfl Ev.assign ?_
  refine Seq.nil ?_
  refine JC.rs ?_
  refine Seq.p rfl Ev.move ?_
  refine Seq.p rfl Ev.move ?_
  refine Seq.p rfl Ev.mulNU ?_
  refine Seq.p rfl Ev.assign ?_
  refine Seq.nil ?_
  refine JC.rs ?_
  refine Seq.p rfl Ev.move ?_
  refine Seq.p rfl Ev.move ?_
  refine Seq.p rfl Ev.mulNU ?_
  refine Seq.p rfl Ev.move ?_
  refine Seq.p rfl (Ev.shrNU 4294967296) ?_
  refine Seq.p rfl Ev.addNU ?_
  refine Seq.p rfl Ev.assign ?_
  refine Seq.nil ?_
  refine JC.rs ?_
  refine Seq.p rfl Ev.move ?_
  refine Seq.p rfl (Ev.lowNU 32 4294967296 (m := 4294967295)) ?_
  refine Seq.p rfl Ev.assign ?_
  refine Seq.nil ?_
  refine JC.rs ?_
  refine Seq.p rfl Ev.move ?_
  refine Seq.p rfl (Ev.shrNU 4294967296) ?_
  refine Seq.p rfl Ev.assign ?_
  refine Seq.nil ?_
  refine JC.rs ?_
  refine Seq.p rfl Ev.move ?_
  refine Seq.p rfl Ev.move ?_
  refine Seq.p rfl Ev.move ?_
  refine Seq.p rfl Ev.mulNU ?_
  refine Seq.p rfl Ev.addNU ?_
  refine Seq.p rfl Ev.assign ?_
  refine Seq.nil ?_
  refine JC.rs ?_
  refine Seq.p rfl Ev.move ?_
  refine Seq.p rfl Ev.move ?_
  refine Seq.p rfl Ev.mulNU ?_
  refine Seq.p rfl Ev.move ?_
  refine Seq.p rfl Ev.addNU ?_
  refine Seq.p rfl Ev.move ?_
  refine Seq.p rfl (Ev.shrNU 4294967296) ?_
  refine Seq.p rfl Ev.addNU ?_
  refine Seq.p rfl Ev.assign ?_
  refine Seq.nil ?_
  refine JC.rs ?_
  refine Seq.p rfl Ev.move ?_
  refine Seq.p rfl Ev.move ?_
  refine Seq.p rfl Ev.mulNM ?_
  refine Seq.p rfl Ev.assign ?_
  refine Seq.nil ?_
  refine JC.ret ?_
  show retQ _ _ _ _ _ _ _ _
  refine ret2 (hp := Part.nil _) (hpost := ?_)
  rw [hhi]
def u3 (l : List Nat) : List Value := l.map fun (x : Nat) => Value.int .u64 (x : Int)
def d3 (n : Nat) : List Nat := [n % 18446744073709551616, n / 18446744073709551616 % 18446744073709551616, n / 340282366920938463463374607431768211456 % 18446744073709551616]
def w3 (n : Nat) : List Value := u3 (d3 n)
theorem u3_get {l : List Nat} {i : Nat} (h : i < l.length) : (u3 l)[0 + i * 1]? = some (.int .u64 ((l[i]! : Nat) : Int)) := by
  rw [show 0 + i * 1 = i by omega, u3, List.getElem?_map, List.getElem?_eq_getElem h, getElem!_pos l i h]
  rfl
theorem u3_set {l : List Nat} {i : Nat} (x : Nat) (h : i < l.length) : (u3 l).take (0 + i * 1) ++ [.int .u64 (x : Int)] ++ (u3 l).drop (0 + i * 1 + 1) = u3 (l.set i x) := by
  rw [show 0 + i * 1 = i by omega, u3, u3, List.map_set, List.set_eq_take_append_cons_drop, if_pos (by rw [List.length_map]; exact h)]
  simp
theorem u3_len (l : List Nat) : (u3 l).length = l.length := List.length_map ..
theorem w3_eq {a b c n : Nat} (ha : a = n % 18446744073709551616) (hb : b = n / 18446744073709551616 % 18446744073709551616) (hc : c = n / 340282366920938463463374607431768211456 % 18446744073709551616) : [Value.int .u64 (a : Int), .int .u64 (b : Int), .int .u64 (c : Int)] = w3 n := by
  subst ha hb hc
  rfl
theorem d3_lt (n i : Nat) (hi : i < 3) : (d3 n)[i]! < 18446744073709551616 := by
  have : i = 0 ∨ i = 1 ∨ i = 2 := by omega
  rcases this with rfl | rfl | rfl
  · show n % 18446744073709551616 < _; omega
  · show n / 18446744073709551616 % 18446744073709551616 < _; omega
  · show n / 340282366920938463463374607431768211456 % 18446744073709551616 < _; omega
set_option maxHeartbeats 1000000 in
set_option maxRecDepth 100000 in
theorem threePlus {w : World} {n hi lo : Nat} (h1 : hi < 18446744073709551616) (h2 : lo < 18446744073709551616) : Spec Go.Proofs.Try.prog 23 #[.agg (w3 n).toArray, .int .u64 hi, .int .u64 lo] w [] (fun u _ => u = .agg (w3 (n + hi * 18446744073709551616 + lo)).toArray) := by
  refine Spec.enter (fn := Go.Proofs.Try.f23) (n := 31) [.agg (w3 n).toArray, .int .u64 hi, .int .u64 lo] Go.Proofs.Try.func23 (by kernel_rfl) rfl Go.Proofs.Try.ntmps23 Go.Proofs.Try.results23 rfl (Own.nil _) ?_
  refine JC.rs ?_
  refine Seq.box (cs := [_, _, _]) (k := ?_); intro b3
  refine Seq.alloc (cs := [_, _, _]) (hz := z.console_three) (k := ?_); intro b6
  refine Seq.nil ?_
  refine JC.rs ?_
  refine Seq.p rfl Ev.assign ?_
  refine Seq.nil ?_
  refine JC.rs ?_
  refine Seq.p rfl (Ev.iaArrB ar.console_three) ?_
  refine Seq.p rfl (Ev.ldB sc.uint64) ?_
  refine Seq.p rfl Ev.move ?_
  refine Seq.p rfl (Ev.add64 Go.Proofs.Try.func43 (by kernel_rfl) (by kernel_rfl) (by kernel_rfl) (by kernel_rfl) (c := 0)) ?_
  refine Seq.p rfl Ev.move ?_
  refine Seq.p rfl Ev.extract ?_
  refine Seq.p rfl Ev.extract ?_
  refine Seq.p rfl (Ev.iaArrB ar.console_three) ?_
  refine Seq.storeN [_, _, _] sz.uint64 (k := ?_)
  refine Seq.p rfl Ev.assign ?_
  refine Seq.nil ?_
  refine JC.rs ?_
  refine Seq.p rfl (Ev.iaArrB ar.console_three) ?_
  refine Seq.p rfl (Ev.ldB sc.uint64) ?_
  refine Seq.p rfl Ev.move ?_
  refine Seq.p rfl Ev.move ?_
  refine Seq.p rfl (Ev.add64 Go.Proofs.Try.func43 (by kernel_rfl) (by kernel_rfl) (by kernel_rfl) (by kernel_rfl)) ?_
  refine Seq.p rfl Ev.move ?_
  refine Seq.p rfl Ev.extract ?_
  refine Seq.p rfl Ev.extract ?_
  refine Seq.p rfl (Ev.iaArrB ar.console_three) ?_
  refine Seq.storeN [_, _, _] sz.uint64 (k := ?_)
  refine Seq.p rfl Ev.assign ?_
  refine Seq.nil ?_
  refine JC.rs ?_
  refine Seq.p rfl (Ev.iaArrB ar.console_three) ?_
  refine Seq.p rfl (Ev.ldB sc.uint64) ?_
  refine Seq.p rfl Ev.move ?_
  refine Seq.p rfl Ev.addNM ?_
  refine Seq.p rfl (Ev.iaArrB ar.console_three) ?_
  refine Seq.storeN [_, _, _] sz.uint64 (k := ?_)
  refine Seq.nil ?_
  refine JC.rs ?_
  refine Seq.p rfl (Ev.ldBA ag.console_three) ?_
  refine Seq.storeN [_, _, _] sz.console_three (k := ?_)
  refine Seq.nil ?_
  refine JC.ret ?_
  show retQ _ _ _ _ _ _ _ _
  refine retB1 ag.console_three (hp := Part.nil _) (hpost := ?_)
  show Value.agg [Value.int .u64 ((_ : Nat) : Int), .int .u64 ((_ : Nat) : Int), .int .u64 ((_ : Nat) : Int)].toArray = _
  rw [w3_eq (n := n + hi * 18446744073709551616 + lo)] <;> omega
def tC (x : List Nat) (m : Nat) : Nat → Nat
  | 0 => 0
  | j + 1 => (x[j]! * m + tC x m j) / 18446744073709551616
def tO (x : List Nat) (m i : Nat) : List Nat := (List.range 3).map fun j => if j < i then (x[j]! * m + tC x m j) % 18446744073709551616 else 0
theorem tO_len (x : List Nat) (m i : Nat) : (tO x m i).length = 3 := rfl
theorem tO_set (x : List Nat) (m i : Nat) (hi : i < 3) : (tO x m i).set i ((x[i]! * m + tC x m i) % 18446744073709551616) = tO x m (i + 1) := by
  have : i = 0 ∨ i = 1 ∨ i = 2 := by omega
  rcases this with rfl | rfl | rfl <;> rfl
theorem prod_small {x m : Nat} (hx : x < 18446744073709551616) (hm : m < 18446744073709551616) : x * m ≤ 340282366920938463426481119284349108225 := Nat.mul_le_mul (show x ≤ 18446744073709551615 by omega) (show m ≤ 18446744073709551615 by omega)
theorem tC_lt {x : List Nat} {m : Nat} (hx : ∀ j, j < 3 → x[j]! < 18446744073709551616) (hm : m < 18446744073709551616) : ∀ j, j ≤ 3 → tC x m j < 18446744073709551616
  | 0, _ => by show 0 < _; omega
  | j + 1, h => by
    have h1 := tC_lt hx hm j (by omega)
    have h2 := prod_small (hx j (by omega)) hm
    show (x[j]! * m + tC x m j) / 18446744073709551616 < _
    omega
theorem tO_end (n m : Nat) : u3 (tO (d3 n) m 3) = w3 (n * m) := by
  have h0 : tO (d3 n) m 3 = [((d3 n)[0]! * m + 0) % 18446744073709551616, ((d3 n)[1]! * m + ((d3 n)[0]! * m + 0) / 18446744073709551616) % 18446744073709551616, ((d3 n)[2]! * m + ((d3 n)[1]! * m + ((d3 n)[0]! * m + 0) / 18446744073709551616) / 18446744073709551616) % 18446744073709551616] := rfl
  have e0 : (d3 n)[0]! = n % 18446744073709551616 := rfl
  have e1 : (d3 n)[1]! = n / 18446744073709551616 % 18446744073709551616 := rfl
  have e2 : (d3 n)[2]! = n / 340282366920938463463374607431768211456 % 18446744073709551616 := rfl
  obtain ⟨x0, hx0⟩ : ∃ x, x = (d3 n)[0]! := ⟨_, rfl⟩
  obtain ⟨x1, hx1⟩ : ∃ x, x = (d3 n)[1]! := ⟨_, rfl⟩
  obtain ⟨x2, hx2⟩ : ∃ x, x = (d3 n)[2]! := ⟨_, rfl⟩
  rw [← hx0, ← hx1, ← hx2] at h0
  rw [← hx0] at e0
  rw [← hx1] at e1
  rw [← hx2] at e2
  obtain ⟨K, hK⟩ : ∃ K, K = n / 6277101735386680763835789423207666416102355444464034512896 := ⟨_, rfl⟩
  have hn : n = x0 + x1 * 18446744073709551616 + x2 * 340282366920938463463374607431768211456 + K * 6277101735386680763835789423207666416102355444464034512896 := by omega
  have hm : n * m = x0 * m + x1 * m * 18446744073709551616 + x2 * m * 340282366920938463463374607431768211456 + K * m * 6277101735386680763835789423207666416102355444464034512896 := by
    rw [hn, Nat.add_mul, Nat.add_mul, Nat.add_mul, Nat.mul_right_comm x1, Nat.mul_right_comm x2, Nat.mul_right_comm K]
  rw [h0]
  obtain ⟨A, hA⟩ : ∃ A, A = x0 * m := ⟨_, rfl⟩
  obtain ⟨B, hB⟩ : ∃ A, A = x1 * m := ⟨_, rfl⟩
  obtain ⟨C, hC⟩ : ∃ A, A = x2 * m := ⟨_, rfl⟩
  obtain ⟨D, hD⟩ : ∃ A, A = K * m := ⟨_, rfl⟩
  rw [← hA, ← hB, ← hC, ← hD] at hm
  rw [← hA, ← hB, ← hC, hm]
  show [Value.int .u64 ((_ : Nat) : Int), .int .u64 ((_ : Nat) : Int), .int .u64 ((_ : Nat) : Int)] = _
  clear hA hB hC hD hm hn hK h0 e0 e1 e2 hx0 hx1 hx2
  rw [w3_eq (n := A + B * 18446744073709551616 + C * 340282366920938463463374607431768211456 + D * 6277101735386680763835789423207666416102355444464034512896)] <;> omega
set_option maxHeartbeats 1000000 in
set_option maxRecDepth 100000 in
theorem threeTimes {w : World} {n m : Nat} (hm : m < 18446744073709551616) : Spec Go.Proofs.Try.prog 24 #[.agg (w3 n).toArray, .int .u64 m] w [] (fun u _ => u = .agg (w3 (n * m)).toArray) := by
  have hd := d3_lt n
  rw [← tO_end]
  obtain ⟨x, hx⟩ : ∃ x, x = d3 n := ⟨_, rfl⟩
  have hxl : x.length = 3 := by rw [hx]; rfl
  have hw : w3 n = u3 x := by rw [hx]; rfl
  have hlt := tC_lt (x := x) (m := m) (by rw [hx]; exact hd) hm
  rw [← hx] at hd ⊢
  rw [hw]
  refine Spec.enter (fn := Go.Proofs.Try.f24) (n := 35) [.agg (u3 x).toArray, .int .u64 m] Go.Proofs.Try.func24 (by kernel_rfl) rfl Go.Proofs.Try.ntmps24 Go.Proofs.Try.results24 rfl (Own.nil _) ?_
  refine JC.rs ?_
  refine Seq.box (cs := u3 x) (k := ?_); intro b2
  refine Seq.alloc (cs := [_, _, _]) (hz := z.console_three) (k := ?_); intro b4
  refine Seq.nil ?_
  refine JC.rs ?_
  refine Seq.alloc (cs := [_, _, _]) (hz := z.console_three) (k := ?_); intro b5
  refine Seq.nil ?_
  refine JC.rs ?_
  refine Seq.p rfl Ev.assign ?_
  refine Seq.nil ?_
  refine JC.seq ?_
  refine JC.rs ?_
  refine Seq.p rfl Ev.move ?_
  refine Seq.nil ?_
  refine JC.blk ?_
  refine JC.loop (α := Nat) (I := fun i e1 H1 => Has [6, 7, 8, 9, 10, 11, 12, 13, 14, 15, 16, 17, 18, 19, 20, 21, 22, 23, 24, 25, 26, 27, 28, 29, 30, 31, 32, 33] [(6, .int .u64 ((tC x m i : Nat) : Int)), (11, .int .i64 (i : Int))] _ e1 ∧ H1 = [.box b5 64 (u3 (tO x m i)), _, .box b2 64 (u3 x)] ∧ i ≤ 3) (μ := fun i => 3 - i) 0 ⟨Has.mk Off.refl (allLook_cons (by repeat (first | exact Look.here | apply Look.there (hne := rfl) | exact Look.const | apply Look.mix rfl | exact Look.arg0 | apply Look.args | exact Look.func)) (allLook_cons (by repeat (first | exact Look.here | apply Look.there (hne := rfl) | exact Look.const | apply Look.mix rfl | exact Look.arg0 | apply Look.args | exact Look.func)) allLook_nil)), rfl, by omega⟩ ?_
  rintro i _ _ ⟨⟨u, rfl⟩, rfl, hi⟩; dsimp only [setL]
  refine JC.rs ?_
  refine Seq.p rfl Ev.lt ?_
  refine Seq.nil ?_
  refine JC.seq ?_
  first | refine JC.c (ht := fun c12 => ?_) (hf := fun c12 => ?_) | refine JC.cb (ht := fun c12 => ?_) (hf := fun c12 => ?_)
  · -- then_t12
    have hi2 : i < 3 := by omega
    have hc0 := hlt i hi
    have hc1 := hlt (i + 1) (by omega)
    have hxi := hd i hi2
    have hps := prod_small hxi hm
    refine JC.skip ?_
    refine JC.seq ?_
    refine JC.blk ?_
    refine JC.rs ?_
    refine Seq.p rfl Ev.move ?_
    refine Seq.p rfl Ev.assign ?_
    refine Seq.nil ?_
    refine JC.rs ?_
    refine Seq.p rfl Ev.move ?_
    refine Seq.p rfl (Ev.iaArrN ar.console_three (i := i)) ?_
    refine Seq.p rfl (Ev.ldB sc.uint64 (hv := u3_get (by omega))) ?_
    refine Seq.p rfl Ev.move ?_
    refine Seq.callP rfl (fun w hw => bitsMul hxi hm) ?_
    refine Seq.p rfl Ev.move ?_
    refine Seq.p rfl Ev.extract ?_
    refine Seq.p rfl Ev.extract ?_
    refine Seq.p rfl Ev.assign ?_
    refine Seq.p rfl Ev.assign ?_
    refine Seq.nil ?_
    refine JC.rs ?_
    refine Seq.p rfl Ev.assign ?_
    refine Seq.nil ?_
    refine JC.rs ?_
    refine Seq.p rfl Ev.move ?_
    refine Seq.p rfl Ev.move ?_
    refine Seq.p rfl Ev.move ?_
    refine Seq.p rfl (Ev.add64 Go.Proofs.Try.func43 (by kernel_rfl) (by kernel_rfl) (by kernel_rfl) (by kernel_rfl) (c := 0)) ?_
    refine Seq.p rfl Ev.move ?_
    refine Seq.p rfl Ev.extract ?_
    refine Seq.p rfl Ev.extract ?_
    refine Seq.p rfl (Ev.iaArrN ar.console_three (i := i)) ?_
    refine Seq.storeTo (cs' := u3 (tO x m (i + 1))) sz.uint64 (hH := At.z) (hfit := by rw [u3_len, tO_len]; show 0 + i * 1 + 1 ≤ 3; omega) (hcs := by rw [← tO_set x m i hi2, ← u3_set _ (by rw [tO_len]; exact hi2)]; show _ ++ [Value.int .u64 _] ++ _ = _; congr 4; omega) (k := ?_)
    refine Seq.p rfl Ev.assign ?_
    refine Seq.nil ?_
    refine JC.reg ?_
    refine Seq.p rfl Ev.move ?_
    refine Seq.p rfl Ev.move ?_
    refine Seq.p rfl (Ev.as (v' := .int .u64 ((tC x m (i + 1) : Nat) : Int)) (by congr 2; show _ = (x[i]! * m + tC x m i) / 18446744073709551616; omega) (Ev.addNU (a := x[i]! * m / 18446744073709551616) (b := (x[i]! * m % 18446744073709551616 + tC x m i + 0) / 18446744073709551616))) ?_
    refine Seq.p rfl Ev.assign ?_
    refine Seq.nil ?_
    refine JC.reg ?_
    refine Seq.p rfl (by first | exact Ev.inc | exact Ev.add) ?_
    refine Seq.p rfl Ev.move ?_
    refine Seq.nil ?_
    exact ⟨i + 1, _, Part.refl _, ⟨Has.mk (by repeat (first | refine Off.upd ?_ rfl | exact Off.mix | refine Off.mix2 ?_ rfl | exact Off.refl)) (allLook_cons (by repeat (first | exact Look.here | apply Look.there (hne := rfl) | exact Look.const | apply Look.mix rfl | exact Look.arg0 | apply Look.args | exact Look.func)) (allLook_cons (by repeat (first | exact Look.here | apply Look.there (hne := rfl) | exact Look.const | apply Look.mix rfl | exact Look.arg0 | apply Look.args | exact Look.func)) allLook_nil)), rfl, by omega⟩, by omega⟩
  · -- else_t12
    obtain rfl : i = 3 := by omega
    refine JC.exit ?_ -- 0
    refine JC.rs ?_
    refine Seq.p rfl (Ev.ldBA (cs := u3 (tO x m 3)) ag.console_three) ?_
    refine Seq.storeTo (cs' := u3 (tO x m 3)) sz.console_three (hH := At.s At.z) (hfit := Nat.le_of_ble_eq_true rfl) (hcs := rfl) (k := ?_)
    refine Seq.nil ?_
    refine JC.ret ?_
    show retQ _ _ _ _ _ _ _ _
    refine retB1 ag.console_three (cs := u3 (tO x m 3)) (hp := Part.nil _) (hpost := ?_)
    rfl
end Go.Rx
/- Numbers of three words: compared, subtracted, divided. -/
namespace Go.Rx
open Go Go.RowKit
set_option linter.unusedVariables false
set_option linter.unusedSimpArgs false
def cmpF (a b : Nat) : Int := if a < b then -1 else if a = b then 0 else 1
theorem d3_parts {n : Nat} (hn : n < 6277101735386680763835789423207666416102355444464034512896) : n = (d3 n)[0]! + (d3 n)[1]! * 18446744073709551616 + (d3 n)[2]! * 340282366920938463463374607431768211456 := by
  show n = n % 18446744073709551616 + n / 18446744073709551616 % 18446744073709551616 * 18446744073709551616 + n / 340282366920938463463374607431768211456 % 18446744073709551616 * 340282366920938463463374607431768211456
  omega
set_option maxHeartbeats 1000000 in
set_option maxRecDepth 100000 in
theorem threeCompare {w : World} {n m : Nat} (hn : n < 6277101735386680763835789423207666416102355444464034512896) (hm : m < 6277101735386680763835789423207666416102355444464034512896) : Spec Go.Proofs.Try.prog 27 #[.agg (w3 n).toArray, .agg (w3 m).toArray] w [] (fun u _ => u = .int .i64 (cmpF n m)) := by
  have hd := d3_lt n
  have he := d3_lt m
  have hx0 := d3_parts hn
  have hy0 := d3_parts hm
  obtain ⟨x, hx⟩ : ∃ x, x = d3 n := ⟨_, rfl⟩
  obtain ⟨y, hy⟩ : ∃ x, x = d3 m := ⟨_, rfl⟩
  have hxl : x.length = 3 := by rw [hx]; rfl
  have hyl : y.length = 3 := by rw [hy]; rfl
  have hw : w3 n = u3 x := by rw [hx]; rfl
  have hv : w3 m = u3 y := by rw [hy]; rfl
  rw [← hx] at hd hx0
  rw [← hy] at he hy0
  rw [hw, hv]
  refine Spec.enter (fn := Go.Proofs.Try.f27) (n := 24) [.agg (u3 x).toArray, .agg (u3 y).toArray] Go.Proofs.Try.func27 (by kernel_rfl) rfl Go.Proofs.Try.ntmps27 Go.Proofs.Try.results27 rfl (Own.nil _) ?_
  refine JC.rs ?_
  refine Seq.box (cs := u3 x) (k := ?_); intro b2
  refine Seq.box (cs := u3 y) (k := ?_); intro b3
  refine Seq.p rfl Ev.assign ?_
  refine Seq.nil ?_
  refine JC.seq ?_
  refine JC.rs ?_
  refine Seq.p rfl Ev.assign ?_
  refine Seq.nil ?_
  refine JC.blk ?_
  refine JC.loop (α := Nat) (I := fun q e1 H1 => Has [4, 5, 6, 7, 8, 9, 10, 11, 12, 13, 14, 15, 16, 17, 18, 19, 20, 21, 22, 23] [(5, .int .i64 ((q : Int) - 1))] _ e1 ∧ H1 = [.box b3 64 (u3 y), .box b2 64 (u3 x)] ∧ q ≤ 3 ∧ ∀ j, q ≤ j → j < 3 → x[j]! = y[j]!) (μ := fun q => q) 3 ⟨Has.mk Off.refl (allLook_cons (by repeat (first | exact Look.here | apply Look.there (hne := rfl) | exact Look.const | apply Look.mix rfl | exact Look.arg0 | apply Look.args | exact Look.func)) allLook_nil), rfl, by omega, fun j h1 h2 => by omega⟩ ?_
  rintro q _ _ ⟨⟨u, rfl⟩, rfl, hq, hsame⟩; dsimp only [setL]
  refine JC.seq ?_
  refine JC.rs ?_
  refine Seq.p rfl Ev.move ?_
  refine Seq.p rfl Ev.ge ?_
  refine Seq.nil ?_
  first | refine JC.c (ht := fun c7 => ?_) (hf := fun c7 => ?_) | refine JC.cb (ht := fun c7 => ?_) (hf := fun c7 => ?_)
  · -- then_t7
    obtain ⟨p, rfl⟩ : ∃ p, q = p + 1 := ⟨q - 1, by omega⟩
    have hpi : ((p + 1 : Nat) : Int) - 1 = (p : Int) := by omega
    rw [hpi]
    have hp3 : p < 3 := by omega
    refine JC.skip ?_
    refine JC.seq ?_
    refine JC.blk ?_
    refine JC.qs mixed (by kernel_rfl) ?_
    refine Qui.p rfl Ev.move ?_
    refine Qui.p rfl (Ev.iaArrN ar.console_three (i := p)) ?_
    refine Qui.p rfl (Ev.ldB sc.uint64 (hv := u3_get (by omega))) ?_
    refine Qui.p rfl Ev.move ?_
    refine Qui.p rfl (Ev.iaArrN ar.console_three (i := p)) ?_
    refine Qui.p rfl (Ev.ldB sc.uint64 (hv := u3_get (by omega))) ?_
    refine Qui.p rfl Ev.ne ?_
    refine Qui.nil ?_
    first | refine JC.c (ht := fun c16 => ?_) (hf := fun c16 => ?_) | refine JC.cb (ht := fun c16 => ?_) (hf := fun c16 => ?_)
    · -- then_t16
      have hcmp : ((x[p]! : Nat) : Int) < ((y[p]! : Nat) : Int) → n < m := by
        intro h
        have : p = 0 ∨ p = 1 ∨ p = 2 := by omega
        rcases this with rfl | rfl | rfl
        · have h1 := hsame 1 (by omega) (by omega); have h2 := hsame 2 (by omega) (by omega); omega
        · have h2 := hsame 2 (by omega) (by omega); have := hd 0 (by omega); have := he 0 (by omega); omega
        · have := hd 0 (by omega); have := he 0 (by omega); have := hd 1 (by omega); have := he 1 (by omega); omega
      have hcmp2 : ((y[p]! : Nat) : Int) < ((x[p]! : Nat) : Int) → m < n := by
        intro h
        have : p = 0 ∨ p = 1 ∨ p = 2 := by omega
        rcases this with rfl | rfl | rfl
        · have h1 := hsame 1 (by omega) (by omega); have h2 := hsame 2 (by omega) (by omega); omega
        · have h2 := hsame 2 (by omega) (by omega); have := hd 0 (by omega); have := he 0 (by omega); omega
        · have := hd 0 (by omega); have := he 0 (by omega); have := hd 1 (by omega); have := he 1 (by omega); omega
      refine JC.seq ?_
      refine JC.qs mixed (by kernel_rfl) ?_
      refine Qui.p rfl Ev.move ?_
      refine Qui.p rfl (Ev.iaArrN ar.console_three (i := p)) ?_
      refine Qui.p rfl (Ev.ldB sc.uint64 (hv := u3_get (by omega))) ?_
      refine Qui.p rfl Ev.move ?_
      refine Qui.p rfl (Ev.iaArrN ar.console_three (i := p)) ?_
      refine Qui.p rfl (Ev.ldB sc.uint64 (hv := u3_get (by omega))) ?_
      refine Qui.p rfl Ev.lt ?_
      refine Qui.nil ?_
      first | refine JC.c (ht := fun c23 => ?_) (hf := fun c23 => ?_) | refine JC.cb (ht := fun c23 => ?_) (hf := fun c23 => ?_)
      · -- then_t23
        refine JC.rs ?_
        refine Seq.p rfl Ev.assign ?_
        refine Seq.nil ?_
        refine JC.ret ?_
        show retQ _ _ _ _ _ _ _ _
        refine ret1 (hp := Part.nil _) (hpost := ?_)
        rw [cmpF, if_pos (hcmp c23)]
      · -- else_t23
        refine JC.skip ?_
        refine JC.rs ?_
        refine Seq.p rfl Ev.assign ?_
        refine Seq.nil ?_
        refine JC.ret ?_
        show retQ _ _ _ _ _ _ _ _
        refine ret1 (hp := Part.nil _) (hpost := ?_)
        have h9 := hcmp2 (by omega)
        rw [cmpF, if_neg (by omega), if_neg (by omega)]
    · -- else_t16
      refine JC.skip ?_
      refine JC.reg ?_
      refine Seq.p rfl Ev.move ?_
      refine Seq.p rfl Ev.sub ?_
      refine Seq.p rfl Ev.assign ?_
      refine Seq.nil ?_
      have hnext : ∀ j, p ≤ j → j < 3 → x[j]! = y[j]! := by
        intro j h1 h2
        have h3 : j = p ∨ p + 1 ≤ j := by omega
        rcases h3 with rfl | h3
        · omega
        · exact hsame j h3 h2
      exact ⟨p, _, Part.refl _, ⟨Has.mk (by repeat (first | refine Off.upd ?_ rfl | exact Off.mix | refine Off.mix2 ?_ rfl | exact Off.refl)) (allLook_cons (by repeat (first | exact Look.here | apply Look.there (hne := rfl) | exact Look.const | apply Look.mix rfl | exact Look.arg0 | apply Look.args | exact Look.func)) allLook_nil), rfl, by omega, hnext⟩, by omega⟩
  · -- else_t7
    obtain rfl : q = 0 := by omega
    refine JC.exit ?_ -- 0
    refine JC.rs ?_
    refine Seq.p rfl Ev.assign ?_
    refine Seq.nil ?_
    refine JC.ret ?_
    show retQ _ _ _ _ _ _ _ _
    refine ret1 (hp := Part.nil _) (hpost := ?_)
    have h0 := hsame 0 (by omega) (by omega)
    have h1 := hsame 1 (by omega) (by omega)
    have h2 := hsame 2 (by omega) (by omega)
    rw [cmpF, if_neg (by omega), if_pos (by omega)]
def sB (x y : List Nat) : Nat → Nat
  | 0 => 0
  | j + 1 => if x[j]! < y[j]! + sB x y j then 1 else 0
def sA (x y : List Nat) (j : Nat) : Nat := (x[j]! + 18446744073709551616 - y[j]! - sB x y j) % 18446744073709551616
def sO (x y : List Nat) (i : Nat) : List Nat := [if 0 < i then sA x y 0 else x[0]!, if 1 < i then sA x y 1 else x[1]!, if 2 < i then sA x y 2 else x[2]!]
theorem sB_succ (x y : List Nat) (j : Nat) : sB x y (j + 1) = if x[j]! < y[j]! + sB x y j then 1 else 0 := rfl
theorem sB_le (x y : List Nat) : ∀ j, sB x y j ≤ 1
  | 0 => Nat.zero_le _
  | j + 1 => by
    unfold sB
    split <;> omega
theorem sO_len (x y : List Nat) (i : Nat) : (sO x y i).length = 3 := rfl
theorem sO_zero {x : List Nat} (y : List Nat) (hx : x.length = 3) : sO x y 0 = x := by
  match x, hx with
  | [a, b, c], _ => rfl
theorem sO_get (x y : List Nat) {i : Nat} (hi : i < 3) : (sO x y i)[i]! = x[i]! := by
  have : i = 0 ∨ i = 1 ∨ i = 2 := by omega
  rcases this with rfl | rfl | rfl <;> simp [sO]
theorem sO_set (x y : List Nat) (i : Nat) (hi : i < 3) : (sO x y i).set i (sA x y i) = sO x y (i + 1) := by
  have : i = 0 ∨ i = 1 ∨ i = 2 := by omega
  rcases this with rfl | rfl | rfl <;> simp [sO]
theorem sO_end {n m : Nat} (hn : n < 6277101735386680763835789423207666416102355444464034512896) (hm : m ≤ n) : u3 (sO (d3 n) (d3 m) 3) = w3 (n - m) := by
  have hx0 := d3_parts hn
  have hy0 := d3_parts (n := m) (by omega)
  have hd := d3_lt n
  have he := d3_lt m
  obtain ⟨x, hx⟩ : ∃ x, x = d3 n := ⟨_, rfl⟩
  obtain ⟨y, hy⟩ : ∃ x, x = d3 m := ⟨_, rfl⟩
  rw [← hx] at hd hx0 ⊢
  rw [← hy] at he hy0 ⊢
  have h0 : sO x y 3 = [sA x y 0, sA x y 1, sA x y 2] := by simp [sO]
  have b0 : sB x y 0 = 0 := by unfold sB; rfl
  have b1 := sB_succ x y 0
  have b2 := sB_succ x y 1
  rw [Nat.zero_add] at b1
  rw [show 1 + 1 = 2 from rfl] at b2
  have x0 := hd 0 (by omega); have x1 := hd 1 (by omega); have x2 := hd 2 (by omega)
  have y0 := he 0 (by omega); have y1 := he 1 (by omega); have y2 := he 2 (by omega)
  rw [h0]
  unfold sA
  rw [b0] at b1 ⊢
  generalize x[0]! = a0 at *
  generalize x[1]! = a1 at *
  generalize x[2]! = a2 at *
  generalize y[0]! = c0 at *
  generalize y[1]! = c1 at *
  generalize y[2]! = c2 at *
  generalize sB x y 1 = s1 at *
  generalize sB x y 2 = s2 at *
  clear hd he hx hy h0 b0
  have e1 : s1 = 0 ∧ c0 ≤ a0 ∨ s1 = 1 ∧ a0 < c0 := by
    split at b1 <;> omega
  have e2 : s2 = 0 ∧ c1 + s1 ≤ a1 ∨ s2 = 1 ∧ a1 < c1 + s1 := by
    split at b2 <;> omega
  clear b1 b2
  obtain ⟨r0, hr0⟩ : ∃ r, r = a0 + s1 * 18446744073709551616 - c0 := ⟨_, rfl⟩
  obtain ⟨r1, hr1⟩ : ∃ r, r = a1 + s2 * 18446744073709551616 - c1 - s1 := ⟨_, rfl⟩
  have k0 : r0 + c0 = a0 + s1 * 18446744073709551616 := by omega
  have k1 : r1 + c1 + s1 = a1 + s2 * 18446744073709551616 := by omega
  have l0 : r0 < 18446744073709551616 := by omega
  have l1 : r1 < 18446744073709551616 := by omega
  have k2 : c2 + s2 ≤ a2 := by omega
  obtain ⟨r2, hr2⟩ : ∃ r, r = a2 - c2 - s2 := ⟨_, rfl⟩
  have k3 : r2 + c2 + s2 = a2 := by omega
  have l2 : r2 < 18446744073709551616 := by omega
  have hr : n - m = r0 + r1 * 18446744073709551616 + r2 * 340282366920938463463374607431768211456 := by omega
  have j0 : (a0 + 18446744073709551616 - c0 - 0) % 18446744073709551616 = r0 := by omega
  have j1 : (a1 + 18446744073709551616 - c1 - s1) % 18446744073709551616 = r1 := by omega
  have j2 : (a2 + 18446744073709551616 - c2 - s2) % 18446744073709551616 = r2 := by omega
  rw [j0, j1, j2]
  show [Value.int .u64 ((_ : Nat) : Int), .int .u64 ((_ : Nat) : Int), .int .u64 ((_ : Nat) : Int)] = _
  clear hr0 hr1 hr2 k0 k1 k2 k3 j0 j1 j2 e1 e2 hx0 hy0
  rw [w3_eq (n := n - m)] <;> omega
set_option maxHeartbeats 1000000 in
set_option maxRecDepth 100000 in
theorem threeLess {w : World} {n m : Nat} (hn : n < 6277101735386680763835789423207666416102355444464034512896) (hm : m ≤ n) : Spec Go.Proofs.Try.prog 44 #[.agg (w3 n).toArray, .agg (w3 m).toArray] w [] (fun u _ => u = .agg (w3 (n - m)).toArray) := by
  have hd := d3_lt n
  have he := d3_lt m
  rw [← sO_end hn hm]
  obtain ⟨x, hx⟩ : ∃ x, x = d3 n := ⟨_, rfl⟩
  obtain ⟨y, hy⟩ : ∃ x, x = d3 m := ⟨_, rfl⟩
  have hxl : x.length = 3 := by rw [hx]; rfl
  have hyl : y.length = 3 := by rw [hy]; rfl
  have hw : w3 n = u3 x := by rw [hx]; rfl
  have hv : w3 m = u3 y := by rw [hy]; rfl
  rw [hw, hv]
  rw [← hx] at hd ⊢
  rw [← hy] at he ⊢
  refine Spec.enter (fn := Go.Proofs.Try.f44) (n := 25) [.agg (u3 x).toArray, .agg (u3 y).toArray] Go.Proofs.Try.func44 (by kernel_rfl) rfl Go.Proofs.Try.ntmps44 Go.Proofs.Try.results44 rfl (Own.nil _) ?_
  refine JC.rs ?_
  refine Seq.box (cs := u3 x) (k := ?_); intro b2
  refine Seq.box (cs := u3 y) (k := ?_); intro b3
  refine Seq.alloc (cs := [_, _, _]) (hz := z.console_three) (k := ?_); intro b4
  refine Seq.nil ?_
  refine JC.rs ?_
  refine Seq.p rfl Ev.assign ?_
  refine Seq.nil ?_
  refine JC.seq ?_
  refine JC.rs ?_
  refine Seq.p rfl Ev.move ?_
  refine Seq.nil ?_
  refine JC.blk ?_
  refine JC.loop (α := Nat) (I := fun i e1 H1 => Has [5, 6, 7, 8, 9, 10, 11, 12, 13, 14, 15, 16, 17, 18, 19, 20, 21, 22, 23] [(5, .int .u64 ((sB x y i : Nat) : Int)), (7, .int .i64 (i : Int))] _ e1 ∧ H1 = [_, .box b3 64 (u3 y), .box b2 64 (u3 (sO x y i))] ∧ i ≤ 3) (μ := fun i => 3 - i) 0 ⟨Has.mk Off.refl (allLook_cons (by repeat (first | exact Look.here | apply Look.there (hne := rfl) | exact Look.const | apply Look.mix rfl | exact Look.arg0 | apply Look.args | exact Look.func)) (allLook_cons (by repeat (first | exact Look.here | apply Look.there (hne := rfl) | exact Look.const | apply Look.mix rfl | exact Look.arg0 | apply Look.args | exact Look.func)) allLook_nil)), by rw [sO_zero y hxl], by omega⟩ ?_
  rintro i _ _ ⟨⟨u, rfl⟩, rfl, hi⟩; dsimp only [setL]
  refine JC.rs ?_
  refine Seq.p rfl Ev.lt ?_
  refine Seq.nil ?_
  refine JC.seq ?_
  first | refine JC.c (ht := fun c8 => ?_) (hf := fun c8 => ?_) | refine JC.cb (ht := fun c8 => ?_) (hf := fun c8 => ?_)
  · -- then_t8
    have hi2 : i < 3 := by omega
    have hb := sB_le x y i
    have hxi := hd i hi2
    have hyi := he i hi2
    refine JC.skip ?_
    refine JC.seq ?_
    refine JC.blk ?_
    refine JC.rs ?_
    refine Seq.p rfl Ev.move ?_
    refine Seq.p rfl Ev.assign ?_
    refine Seq.nil ?_
    refine JC.anyE 2 mixed ?_
    refine Any.p 0 rfl (by kernel_rfl) (by kernel_rfl) (by kernel_rfl) rfl Ev.move ?_
    refine Any.p 1 rfl (by kernel_rfl) (by kernel_rfl) (by kernel_rfl) rfl Ev.move ?_
    refine Any.p 2 rfl (by kernel_rfl) (by kernel_rfl) (by kernel_rfl) rfl (Ev.iaArrN ar.console_three (i := i)) ?_
    refine Any.p 4 rfl (by kernel_rfl) (by kernel_rfl) (by kernel_rfl) rfl Ev.move ?_
    refine Any.p 5 rfl (by kernel_rfl) (by kernel_rfl) (by kernel_rfl) rfl (Ev.iaArrN ar.console_three (i := i)) ?_
    refine Any.p 6 rfl (by kernel_rfl) (by kernel_rfl) (by kernel_rfl) rfl (Ev.ldB sc.uint64 (hv := u3_get (by omega))) ?_
    refine Any.p 7 rfl (by kernel_rfl) (by kernel_rfl) (by kernel_rfl) rfl Ev.move ?_
    refine Any.one 3 rfl (by kernel_rfl) ?_
    refine Seq.p rfl (Ev.as (v' := .int .u64 ((x[i]! : Nat) : Int)) (by rw [sO_get x y hi2]) (Ev.ldB sc.uint64 (hv := u3_get (by rw [sO_len]; exact hi2)))) ?_
    refine Seq.nil ⟨(by repeat (first | exact Part.refl _ | exact Part.nil _ | apply Part.here | apply Part.skip)), ?_⟩
    refine Any.p 8 rfl (by kernel_rfl) (by kernel_rfl) (by kernel_rfl) rfl (Ev.sub64 Go.Proofs.Try.func31 (by kernel_rfl) (by kernel_rfl) (by kernel_rfl) (by kernel_rfl)) ?_
    refine Any.p 9 rfl (by kernel_rfl) (by kernel_rfl) (by kernel_rfl) rfl Ev.move ?_
    refine Any.p 10 rfl (by kernel_rfl) (by kernel_rfl) (by kernel_rfl) rfl Ev.extract ?_
    refine Any.p 11 rfl (by kernel_rfl) (by kernel_rfl) (by kernel_rfl) rfl Ev.extract ?_
    refine Any.p 12 rfl (by kernel_rfl) (by kernel_rfl) (by kernel_rfl) rfl (Ev.iaArrN ar.console_three (i := i)) ?_
    refine Any.one 13 rfl (by kernel_rfl) ?_
    refine Seq.storeTo (cs' := u3 (sO x y (i + 1))) sz.uint64 (hH := At.s (At.s At.z)) (hfit := by rw [u3_len, sO_len]; show 0 + i * 1 + 1 ≤ 3; omega) (hcs := by rw [← sO_set x y i hi2, ← u3_set _ (by rw [sO_len]; exact hi2)]; unfold sA; rfl) (k := ?_)
    refine Seq.nil ⟨(by repeat (first | exact Part.refl _ | exact Part.nil _ | apply Part.here | apply Part.skip)), ?_⟩
    refine Any.p 14 rfl (by kernel_rfl) (by kernel_rfl) (by kernel_rfl) rfl Ev.assign ?_
    refine Any.done (by kernel_rfl) ?_
    refine JC.reg ?_
    refine Seq.p rfl (by first | exact Ev.inc | exact Ev.add) ?_
    refine Seq.p rfl Ev.move ?_
    refine Seq.nil ?_
    exact ⟨i + 1, _, Part.refl _, ⟨Has.mk (by repeat (first | refine Off.upd ?_ rfl | exact Off.mix | refine Off.mix2 ?_ rfl | exact Off.refl)) (allLook_cons (by repeat (first | exact Look.here | apply Look.there (hne := rfl) | exact Look.const | apply Look.mix rfl | exact Look.arg0 | apply Look.args | exact Look.func)) (allLook_cons (by repeat (first | exact Look.here | apply Look.there (hne := rfl) | exact Look.const | apply Look.mix rfl | exact Look.arg0 | apply Look.args | exact Look.func)) allLook_nil)), rfl, by omega⟩, by omega⟩
  · -- else_t8
    obtain rfl : i = 3 := by omega
    refine JC.exit ?_ -- 0
    refine JC.rs ?_
    refine Seq.p rfl (Ev.ldBA (cs := u3 (sO x y 3)) ag.console_three) ?_
    refine Seq.storeTo (cs' := u3 (sO x y 3)) sz.console_three (hH := At.z) (hfit := Nat.le_of_ble_eq_true rfl) (hcs := rfl) (k := ?_)
    refine Seq.nil ?_
    refine JC.ret ?_
    show retQ _ _ _ _ _ _ _ _
    refine retB1 ag.console_three (cs := u3 (sO x y 3)) (hp := Part.nil _) (hpost := ?_)
    rfl
end Go.Rx
/- Numbers of three words: doubled, divided. -/
namespace Go.Rx
open Go Go.RowKit
set_option linter.unusedVariables false
set_option linter.unusedSimpArgs false
section
variable {P : Program} {w0 : World} {Cs H : List Chunk} {e : Env} {ty tx ty' : TypeId} {x y : Operand} {a b : Nat}
theorem Ev.shrV {k' : IntKind} {s : Nat} (hx : Look e x (.int .u64 (a : Int)) := by repeat (first | exact Look.here | apply Look.there (hne := rfl) | exact Look.const | apply Look.mix rfl | exact Look.arg0 | apply Look.args | exact Look.func)) (hy : Look e y (.int k' (s : Int)) := by repeat (first | exact Look.here | apply Look.there (hne := rfl) | exact Look.const | apply Look.mix rfl | exact Look.arg0 | apply Look.args | exact Look.func)) (hs : s < 64 := by omega) :
    Ev P w0 Cs H e (.binOp .shr tx x y ty') ty (.int .u64 ((a / 2 ^ s : Nat) : Int)) :=
  Ev.shrNU (2 ^ s) hx hy (by omega) (by
    have : IntKind.u64.bits = 64 := rfl
    rw [this, Int.toNat_natCast, Nat.min_eq_left (by omega), Int.natCast_pow]
    rfl)
theorem bits_or {n m : Nat} (hn : n < 18446744073709551616) (hm : m < 18446744073709551616) : (BitVec.ofInt IntKind.u64.bits (n : Int) ||| BitVec.ofInt IntKind.u64.bits (m : Int)).toNat = n ||| m := by
  have e1 : ∀ q : Nat, q < 18446744073709551616 → (BitVec.ofInt IntKind.u64.bits (q : Int)).toNat = q := fun q hq => by
    rw [BitVec.toNat_ofInt]
    have : ((2 ^ IntKind.u64.bits : Nat) : Int) = 18446744073709551616 := rfl
    rw [this, Int.emod_eq_of_lt (by omega) (by omega)]
    omega
  rw [BitVec.toNat_or, e1 n hn, e1 m hm]
theorem Ev.orN (hx : Look e x (.int .u64 (a : Int)) := by repeat (first | exact Look.here | apply Look.there (hne := rfl) | exact Look.const | apply Look.mix rfl | exact Look.arg0 | apply Look.args | exact Look.func)) (hy : Look e y (.int .u64 (b : Int)) := by repeat (first | exact Look.here | apply Look.there (hne := rfl) | exact Look.const | apply Look.mix rfl | exact Look.arg0 | apply Look.args | exact Look.func)) (ha : a < 18446744073709551616 := by omega) (hb : b < 18446744073709551616 := by omega) :
    Ev P w0 Cs H e (.binOp .or tx x y ty') ty (.int .u64 ((a ||| b : Nat) : Int)) := by
  refine Ev.as ?_ (Ev.bits (k := .u64) (· ||| ·) (.inr (.inl ⟨rfl, rfl⟩)) hx hy)
  have h := bits_or ha hb
  have h2 : a ||| b < 2 ^ 64 := Nat.or_lt_two_pow ha hb
  show Value.int .u64 (IntKind.u64.wrap (((BitVec.ofInt IntKind.u64.bits (a : Int) ||| BitVec.ofInt IntKind.u64.bits (b : Int)).toNat : Nat) : Int)) = _
  rw [h, wrap_u64 _ (by omega)]
end
theorem or_bit {n t : Nat} (hn : n % 2 = 0) (ht : t < 2) : n ||| t = n + t := by
  obtain ⟨m, rfl⟩ : ∃ m, n = 2 ^ 1 * m := ⟨n / 2, by omega⟩
  exact (Nat.two_pow_add_eq_or_of_lt (i := 1) ht m).symm
theorem w3_get {n i : Nat} (h : i < 3) : (w3 n)[0 + i * 1]? = some (.int .u64 ((n / 2 ^ (64 * i) % 18446744073709551616 : Nat) : Int)) := by
  have : i = 0 ∨ i = 1 ∨ i = 2 := by omega
  rcases this with rfl | rfl | rfl
  · show some (Value.int .u64 ((n % 18446744073709551616 : Nat) : Int)) = _
    rw [Nat.mul_zero, Nat.pow_zero, Nat.div_one]
  · rfl
  · rfl
theorem w3_bit {n t : Nat} (hn : n % 2 = 0) (ht : t < 2) : (w3 n).take (0 + 0 * 1) ++ [Value.int .u64 ((n % 18446744073709551616 ||| t : Nat) : Int)] ++ (w3 n).drop (0 + 0 * 1 + 1) = w3 (n + t) := by
  rw [or_bit (by omega) ht]
  show [Value.int .u64 ((_ : Nat) : Int), .int .u64 ((_ : Nat) : Int), .int .u64 ((_ : Nat) : Int)] = _
  rw [w3_eq (n := n + t)] <;> omega
theorem bit_at (n p : Nat) : n / 2 ^ (64 * (p / 64)) % 18446744073709551616 / 2 ^ (p % 64) % 2 = n / 2 ^ p % 2 := by
  have h : 18446744073709551616 = 2 ^ (p % 64) * 2 ^ (64 - p % 64) := by
    rw [← Nat.pow_add, show p % 64 + (64 - p % 64) = 64 by omega]
  obtain ⟨z, hz⟩ : ∃ z, 64 - p % 64 = z + 1 := ⟨63 - p % 64, by omega⟩
  rw [h, Nat.mod_mul_right_div_self, hz, Nat.mod_mod_of_dvd _ ⟨2 ^ z, by rw [Nat.pow_succ, Nat.mul_comm]⟩, Nat.div_div_eq_div_mul, ← Nat.pow_add, show 64 * (p / 64) + p % 64 = p by omega]
theorem div_bit (n p b : Nat) (hb : 0 < b) : n / 2 ^ p / b = n / 2 ^ (p + 1) / b * 2 + (if b ≤ n / 2 ^ (p + 1) % b * 2 + n / 2 ^ p % 2 then 1 else 0) ∧ n / 2 ^ p % b = n / 2 ^ (p + 1) % b * 2 + n / 2 ^ p % 2 - (if b ≤ n / 2 ^ (p + 1) % b * 2 + n / 2 ^ p % 2 then b else 0) := by
  have h1 : n / 2 ^ (p + 1) = n / 2 ^ p / 2 := by rw [Nat.pow_succ, Nat.div_div_eq_div_mul]
  rw [h1]
  obtain ⟨x, hx⟩ : ∃ x, x = n / 2 ^ p := ⟨_, rfl⟩
  rw [← hx]
  have h2 := Nat.div_add_mod (x / 2) b
  have h3 := Nat.mod_lt (x / 2) hb
  obtain ⟨q, hq⟩ : ∃ q, q = x / 2 / b := ⟨_, rfl⟩
  obtain ⟨r, hr⟩ : ∃ r, r = x / 2 % b := ⟨_, rfl⟩
  rw [← hq, ← hr] at h2
  rw [← hr] at h3
  rw [← hq, ← hr]
  have h4 : x = b * (q * 2) + (r * 2 + x % 2) := by
    rw [← Nat.mul_assoc]; omega
  by_cases hc : b ≤ r * 2 + x % 2
  · rw [if_pos hc, if_pos hc]
    have h5 : x = r * 2 + x % 2 - b + b * (q * 2 + 1) := by rw [Nat.mul_add, Nat.mul_one]; omega
    have h6 : r * 2 + x % 2 - b < b := by omega
    obtain ⟨z, hz⟩ : ∃ z, z = r * 2 + x % 2 - b := ⟨_, rfl⟩
    rw [← hz] at h5 h6 ⊢
    rw [h5, Nat.add_mul_div_left _ _ hb, Nat.add_mul_mod_self_left, Nat.div_eq_of_lt h6, Nat.mod_eq_of_lt h6]
    omega
  · rw [if_neg hc, if_neg hc]
    have h5 : x = r * 2 + x % 2 + b * (q * 2) := by omega
    have h6 : r * 2 + x % 2 < b := by omega
    obtain ⟨z, hz⟩ : ∃ z, z = r * 2 + x % 2 := ⟨_, rfl⟩
    rw [← hz] at h5 h6 ⊢
    rw [h5, Nat.add_mul_div_left _ _ hb, Nat.add_mul_mod_self_left, Nat.div_eq_of_lt h6, Nat.mod_eq_of_lt h6]
    omega
set_option maxHeartbeats 1000000 in
theorem threeDoubled {w : World} {n : Nat} : Spec Go.Proofs.Try.prog 26 #[.agg (w3 n).toArray] w [] (fun u _ => u = .agg (w3 (n * 2)).toArray) := by
  refine Spec.enter (fn := Go.Proofs.Try.f26) (n := 5) [.agg (w3 n).toArray] Go.Proofs.Try.func26 (by kernel_rfl) rfl Go.Proofs.Try.ntmps26 Go.Proofs.Try.results26 rfl (Own.nil _) ?_
  refine JC.rs ?_
  refine Seq.box (cs := w3 n) (k := ?_); intro b1
  refine Seq.alloc (cs := [_, _, _]) (hz := z.console_three) (k := ?_); intro b2
  refine Seq.nil ?_
  refine JC.rs ?_
  refine Seq.p rfl (Ev.ldBA (cs := w3 n) ag.console_three) ?_
  refine Seq.callP rfl (fun w hw => threeTimes (n := n) (m := 2) (by omega)) ?_
  refine Seq.storeTo (cs' := w3 (n * 2)) sz.console_three (hH := At.z) (hfit := Nat.le_of_ble_eq_true rfl) (hcs := rfl) (k := ?_)
  refine Seq.nil ?_
  refine JC.ret ?_
  show retQ _ _ _ _ _ _ _ _
  refine retB1 ag.console_three (cs := w3 (n * 2)) (hp := Part.nil _) (hpost := ?_)
  rfl
end Go.Rx
/- Numbers of three words: divided. -/
namespace Go.Rx
open Go Go.RowKit
set_option linter.unusedVariables false
set_option linter.unusedSimpArgs false
theorem w3_get0 {n : Nat} : (w3 n)[0 + 0 * 1]? = some (.int .u64 ((n % 18446744073709551616 : Nat) : Int)) := rfl
set_option maxHeartbeats 2000000 in
set_option maxRecDepth 100000 in
theorem threeDivided {w : World} {n d : Nat} (hn : n < 6277101735386680763835789423207666416102355444464034512896) (hd : 0 < d) (hd2 : d < 3138550867693340381917894711603833208051177722232017256448) : Spec Go.Proofs.Try.prog 25 #[.agg (w3 n).toArray, .agg (w3 d).toArray] w [] (fun u _ => u = .tuple #[.agg (w3 (n / d)).toArray, .agg (w3 (n % d)).toArray]) := by
  refine Spec.enter (fn := Go.Proofs.Try.f25) (n := 40) [.agg (w3 n).toArray, .agg (w3 d).toArray] Go.Proofs.Try.func25 (by kernel_rfl) rfl Go.Proofs.Try.ntmps25 Go.Proofs.Try.results25 rfl (Own.nil _) ?_
  refine JC.rs ?_
  refine Seq.box (cs := w3 n) (k := ?_); intro b2
  refine Seq.box (cs := w3 d) (k := ?_); intro b3
  refine Seq.alloc (cs := [_, _, _]) (hz := z.console_three) (k := ?_); intro b4
  refine Seq.alloc (cs := [_, _, _]) (hz := z.console_three) (k := ?_); intro b5
  refine Seq.nil ?_
  refine JC.seq ?_
  refine JC.rs ?_
  refine Seq.p rfl Ev.assign ?_
  refine Seq.nil ?_
  refine JC.blk ?_
  refine JC.loop (α := Nat) (I := fun q e1 H1 => Has [6, 7, 8, 9, 10, 11, 12, 13, 14, 15, 16, 17, 18, 19, 20, 21, 22, 23, 24, 25, 26, 27, 28, 29, 30, 31, 32, 33, 34, 35, 36, 37] [(6, .int .i64 ((q : Int) - 1))] _ e1 ∧ H1 = [.box b5 64 (w3 (n / 2 ^ q % d)), .box b4 64 (w3 (n / 2 ^ q / d)), .box b3 64 (w3 d), .box b2 64 (w3 n)] ∧ q ≤ 192) (μ := fun q => q) 192 ⟨Has.mk Off.refl (allLook_cons (by repeat (first | exact Look.here | apply Look.there (hne := rfl) | exact Look.const | apply Look.mix rfl | exact Look.arg0 | apply Look.args | exact Look.func)) allLook_nil), by rw [Nat.div_eq_of_lt (show n < 2 ^ 192 from hn), Nat.zero_mod, Nat.zero_div]; rfl, by omega⟩ ?_
  rintro q _ _ ⟨⟨u, rfl⟩, rfl, hq⟩; dsimp only [setL]
  refine JC.seq ?_
  refine JC.rs ?_
  refine Seq.p rfl Ev.move ?_
  refine Seq.p rfl Ev.ge ?_
  refine Seq.nil ?_
  first | refine JC.c (ht := fun c8 => ?_) (hf := fun c8 => ?_) | refine JC.cb (ht := fun c8 => ?_) (hf := fun c8 => ?_)
  · -- then_t8
    obtain ⟨p, rfl⟩ : ∃ p, q = p + 1 := ⟨q - 1, by omega⟩
    have hpi : ((p + 1 : Nat) : Int) - 1 = (p : Int) := by omega
    rw [hpi]
    obtain ⟨hD1, hD2⟩ := div_bit n p d hd
    have hR := Nat.mod_lt (n / 2 ^ (p + 1)) hd
    have hT : n / 2 ^ p % 2 < 2 := Nat.mod_lt _ (by omega)
    have hB := bit_at n p
    obtain ⟨z, hQ⟩ : ∃ z, z = n / 2 ^ (p + 1) / d := ⟨_, rfl⟩
    obtain ⟨r, hr⟩ : ∃ r, r = n / 2 ^ (p + 1) % d := ⟨_, rfl⟩
    obtain ⟨t, ht⟩ : ∃ t, t = n / 2 ^ p % 2 := ⟨_, rfl⟩
    rw [← hQ, ← hr, ← ht] at hD1
    rw [← hr, ← ht] at hD2
    rw [← hr] at hR
    rw [← ht] at hB hT
    rw [← hQ, ← hr]
    refine JC.skip ?_
    refine JC.seq ?_
    refine JC.blk ?_
    refine JC.asP ([.box b3 64 (w3 d), .box b2 64 (w3 n)]) mixed (by repeat (first | exact Part.refl _ | exact Part.nil _ | apply Part.here | apply Part.skip)) ?_
    refine Any.two 0 2 rfl rfl (by kernel_rfl) ?_ ?_
    · -- first 0
      refine Seq.p rfl (Ev.ldBA (cs := w3 r) ag.console_three) ?_
      refine Seq.nil ⟨(by repeat (first | exact Part.refl _ | exact Part.nil _ | apply Part.here | apply Part.skip)), ?_⟩
      refine Any.call 1 rfl (by kernel_rfl) (by kernel_rfl) (by kernel_rfl) rfl (fun w hw => threeDoubled) ?_
      refine Any.one 2 rfl (by kernel_rfl) ?_
      refine Seq.p rfl (Ev.ldBA (cs := w3 z) ag.console_three) ?_
      refine Seq.nil ⟨(by repeat (first | exact Part.refl _ | exact Part.nil _ | apply Part.here | apply Part.skip)), ?_⟩
      refine Any.call 3 rfl (by kernel_rfl) (by kernel_rfl) (by kernel_rfl) rfl (fun w hw => threeDoubled) ?_
      refine Any.one 4 rfl (by kernel_rfl) ?_
      refine Seq.storeTo (cs' := w3 (r * 2)) sz.console_three (hfit := Nat.le_of_ble_eq_true rfl) (hcs := rfl) (k := ?_)
      refine Seq.nil ⟨(by repeat (first | exact Part.refl _ | exact Part.nil _ | apply Part.here | apply Part.skip)), ?_⟩
      refine Any.one 5 rfl (by kernel_rfl) ?_
      refine Seq.storeTo (cs' := w3 (z * 2)) sz.console_three (hfit := Nat.le_of_ble_eq_true rfl) (hcs := rfl) (k := ?_)
      refine Seq.nil ⟨(by repeat (first | exact Part.refl _ | exact Part.nil _ | apply Part.here | apply Part.skip)), ?_⟩
      refine Any.done (by kernel_rfl) ?_
      refine JC.asE 0 mixed ?_
      refine Any.p 0 rfl (by kernel_rfl) (by kernel_rfl) (by kernel_rfl) rfl (Ev.iaArrB ar.console_three) ?_
      refine Any.p 2 rfl (by kernel_rfl) (by kernel_rfl) (by kernel_rfl) rfl Ev.move ?_
      refine Any.p 3 rfl (by kernel_rfl) (by kernel_rfl) (by kernel_rfl) rfl (Ev.as (v' := .int .i64 ((p / 64 : Nat) : Int)) (congrArg (Value.int .i64) (by omega)) (Ev.quo (a := (p : Int)) (b := 64))) ?_
      refine Any.p 4 rfl (by kernel_rfl) (by kernel_rfl) (by kernel_rfl) rfl (Ev.iaArrN ar.console_three (i := p / 64)) ?_
      refine Any.p 5 rfl (by kernel_rfl) (by kernel_rfl) (by kernel_rfl) rfl (Ev.ldB sc.uint64 (hv := w3_get (by omega))) ?_
      refine Any.p 6 rfl (by kernel_rfl) (by kernel_rfl) (by kernel_rfl) rfl Ev.move ?_
      refine Any.p 7 rfl (by kernel_rfl) (by kernel_rfl) (by kernel_rfl) rfl (Ev.as (v' := .int .i64 ((p % 64 : Nat) : Int)) (congrArg (Value.int .i64) (by omega)) (Ev.rem (a := (p : Int)) (b := 64))) ?_
      refine Any.p 8 rfl (by kernel_rfl) (by kernel_rfl) (by kernel_rfl) rfl Ev.shrV ?_
      refine Any.p 9 rfl (by kernel_rfl) (by kernel_rfl) (by kernel_rfl) rfl (Ev.as (v' := .int .u64 ((t : Nat) : Int)) (congrArg (Value.int .u64) (by rw [hB])) (Ev.lowNU 1 2 (m := 1) (ha := by rw [show (64 : Nat) = 64 from rfl]; have := Nat.div_le_self (n / 2 ^ (64 * (p / 64)) % 18446744073709551616) (2 ^ (p % 64)); omega))) ?_
      refine Any.one 1 rfl (by kernel_rfl) ?_
      refine Seq.p rfl (Ev.ldB sc.uint64 (hv := w3_get0)) ?_
      refine Seq.nil ⟨(by repeat (first | exact Part.refl _ | exact Part.nil _ | apply Part.here | apply Part.skip)), ?_⟩
      refine Any.p 10 rfl (by kernel_rfl) (by kernel_rfl) (by kernel_rfl) rfl (Ev.orN (a := r * 2 % 18446744073709551616) (b := t)) ?_
      refine Any.p 11 rfl (by kernel_rfl) (by kernel_rfl) (by kernel_rfl) rfl (Ev.iaArrB ar.console_three) ?_
      refine Any.one 12 rfl (by kernel_rfl) ?_
      refine Seq.storeTo (cs' := w3 (r * 2 + t)) sz.uint64 (hfit := Nat.le_of_ble_eq_true rfl) (hcs := w3_bit (by omega) hT) (k := ?_)
      refine Seq.nil ⟨(by repeat (first | exact Part.refl _ | exact Part.nil _ | apply Part.here | apply Part.skip)), ?_⟩
      refine Any.done (by kernel_rfl) ?_
      refine JC.rs ?_
      refine Seq.p rfl (Ev.ldBA (cs := w3 (r * 2 + t)) ag.console_three) ?_
      refine Seq.p rfl (Ev.ldBA (cs := w3 d) ag.console_three) ?_
      refine Seq.callP rfl (fun w hw => threeCompare (n := r * 2 + t) (m := d) (by omega) (by omega)) ?_
      refine Seq.p rfl Ev.ge ?_
      refine Seq.nil ?_
      first | refine JC.c (ht := fun c30 => ?_) (hf := fun c30 => ?_) | refine JC.cb (ht := fun c30 => ?_) (hf := fun c30 => ?_)
      · -- then_t30
        have hc : d ≤ r * 2 + t := by unfold cmpF at c30; split at c30 <;> omega
        rw [if_pos hc] at hD1 hD2
        refine JC.rs ?_
        refine Seq.p rfl (Ev.ldBA (cs := w3 (r * 2 + t)) ag.console_three) ?_
        refine Seq.p rfl (Ev.ldBA (cs := w3 d) ag.console_three) ?_
        refine Seq.callP rfl (fun w hw => threeLess (n := r * 2 + t) (m := d) (by omega) hc) ?_
        refine Seq.storeTo (cs' := w3 (n / 2 ^ p % d)) sz.console_three (hfit := Nat.le_of_ble_eq_true rfl) (hcs := by rw [hD2]; rfl) (k := ?_)
        refine Seq.nil ?_
        refine JC.reg ?_
        refine Seq.p rfl (Ev.iaArrB ar.console_three) ?_
        refine Seq.p rfl (Ev.ldB sc.uint64 (hv := w3_get0)) ?_
        refine Seq.p rfl (Ev.orN (b := 1)) ?_
        refine Seq.p rfl (Ev.iaArrB ar.console_three) ?_
        refine Seq.storeTo (cs' := w3 (n / 2 ^ p / d)) sz.uint64 (hfit := Nat.le_of_ble_eq_true rfl) (hcs := by rw [hD1]; exact w3_bit (n := z * 2) (t := 1) (by omega) (by omega)) (k := ?_)
        refine Seq.nil ?_
        refine JC.reg ?_
        refine Seq.p rfl Ev.move ?_
        refine Seq.p rfl Ev.sub ?_
        refine Seq.p rfl Ev.assign ?_
        refine Seq.nil ?_
        exact ⟨p, _, Part.refl _, ⟨Has.mk (by repeat (first | refine Off.upd ?_ rfl | exact Off.mix | refine Off.mix2 ?_ rfl | exact Off.refl)) (allLook_cons (by repeat (first | exact Look.here | apply Look.there (hne := rfl) | exact Look.const | apply Look.mix rfl | exact Look.arg0 | apply Look.args | exact Look.func)) allLook_nil), rfl, by omega⟩, by omega⟩
      · -- else_t30
        have hc : ¬ d ≤ r * 2 + t := by unfold cmpF at c30; split at c30 <;> (try split at c30) <;> omega
        rw [if_neg hc] at hD1 hD2
        rw [Nat.add_zero] at hD1
        rw [Nat.sub_zero] at hD2
        rw [← hD1, ← hD2]
        refine JC.skip ?_
        refine JC.reg ?_
        refine Seq.p rfl Ev.move ?_
        refine Seq.p rfl Ev.sub ?_
        refine Seq.p rfl Ev.assign ?_
        refine Seq.nil ?_
        exact ⟨p, _, Part.refl _, ⟨Has.mk (by repeat (first | refine Off.upd ?_ rfl | exact Off.mix | refine Off.mix2 ?_ rfl | exact Off.refl)) (allLook_cons (by repeat (first | exact Look.here | apply Look.there (hne := rfl) | exact Look.const | apply Look.mix rfl | exact Look.arg0 | apply Look.args | exact Look.func)) allLook_nil), rfl, by omega⟩, by omega⟩
    · -- first 2
      refine Seq.p rfl (Ev.ldBA (cs := w3 z) ag.console_three) ?_
      refine Seq.nil ⟨(by repeat (first | exact Part.refl _ | exact Part.nil _ | apply Part.here | apply Part.skip)), ?_⟩
      refine Any.one 0 rfl (by kernel_rfl) ?_
      refine Seq.p rfl (Ev.ldBA (cs := w3 r) ag.console_three) ?_
      refine Seq.nil ⟨(by repeat (first | exact Part.refl _ | exact Part.nil _ | apply Part.here | apply Part.skip)), ?_⟩
      refine Any.call 1 rfl (by kernel_rfl) (by kernel_rfl) (by kernel_rfl) rfl (fun w hw => threeDoubled) ?_
      refine Any.call 3 rfl (by kernel_rfl) (by kernel_rfl) (by kernel_rfl) rfl (fun w hw => threeDoubled) ?_
      refine Any.one 4 rfl (by kernel_rfl) ?_
      refine Seq.storeTo (cs' := w3 (r * 2)) sz.console_three (hfit := Nat.le_of_ble_eq_true rfl) (hcs := rfl) (k := ?_)
      refine Seq.nil ⟨(by repeat (first | exact Part.refl _ | exact Part.nil _ | apply Part.here | apply Part.skip)), ?_⟩
      refine Any.one 5 rfl (by kernel_rfl) ?_
      refine Seq.storeTo (cs' := w3 (z * 2)) sz.console_three (hfit := Nat.le_of_ble_eq_true rfl) (hcs := rfl) (k := ?_)
      refine Seq.nil ⟨(by repeat (first | exact Part.refl _ | exact Part.nil _ | apply Part.here | apply Part.skip)), ?_⟩
      refine Any.done (by kernel_rfl) ?_
      refine JC.asE 0 mixed ?_
      refine Any.p 0 rfl (by kernel_rfl) (by kernel_rfl) (by kernel_rfl) rfl (Ev.iaArrB ar.console_three) ?_
      refine Any.p 2 rfl (by kernel_rfl) (by kernel_rfl) (by kernel_rfl) rfl Ev.move ?_
      refine Any.p 3 rfl (by kernel_rfl) (by kernel_rfl) (by kernel_rfl) rfl (Ev.as (v' := .int .i64 ((p / 64 : Nat) : Int)) (congrArg (Value.int .i64) (by omega)) (Ev.quo (a := (p : Int)) (b := 64))) ?_
      refine Any.p 4 rfl (by kernel_rfl) (by kernel_rfl) (by kernel_rfl) rfl (Ev.iaArrN ar.console_three (i := p / 64)) ?_
      refine Any.p 5 rfl (by kernel_rfl) (by kernel_rfl) (by kernel_rfl) rfl (Ev.ldB sc.uint64 (hv := w3_get (by omega))) ?_
      refine Any.p 6 rfl (by kernel_rfl) (by kernel_rfl) (by kernel_rfl) rfl Ev.move ?_
      refine Any.p 7 rfl (by kernel_rfl) (by kernel_rfl) (by kernel_rfl) rfl (Ev.as (v' := .int .i64 ((p % 64 : Nat) : Int)) (congrArg (Value.int .i64) (by omega)) (Ev.rem (a := (p : Int)) (b := 64))) ?_
      refine Any.p 8 rfl (by kernel_rfl) (by kernel_rfl) (by kernel_rfl) rfl Ev.shrV ?_
      refine Any.p 9 rfl (by kernel_rfl) (by kernel_rfl) (by kernel_rfl) rfl (Ev.as (v' := .int .u64 ((t : Nat) : Int)) (congrArg (Value.int .u64) (by rw [hB])) (Ev.lowNU 1 2 (m := 1) (ha := by rw [show (64 : Nat) = 64 from rfl]; have := Nat.div_le_self (n / 2 ^ (64 * (p / 64)) % 18446744073709551616) (2 ^ (p % 64)); omega))) ?_
      refine Any.one 1 rfl (by kernel_rfl) ?_
      refine Seq.p rfl (Ev.ldB sc.uint64 (hv := w3_get0)) ?_
      refine Seq.nil ⟨(by repeat (first | exact Part.refl _ | exact Part.nil _ | apply Part.here | apply Part.skip)), ?_⟩
      refine Any.p 10 rfl (by kernel_rfl) (by kernel_rfl) (by kernel_rfl) rfl (Ev.orN (a := r * 2 % 18446744073709551616) (b := t)) ?_
      refine Any.p 11 rfl (by kernel_rfl) (by kernel_rfl) (by kernel_rfl) rfl (Ev.iaArrB ar.console_three) ?_
      refine Any.one 12 rfl (by kernel_rfl) ?_
      refine Seq.storeTo (cs' := w3 (r * 2 + t)) sz.uint64 (hfit := Nat.le_of_ble_eq_true rfl) (hcs := w3_bit (by omega) hT) (k := ?_)
      refine Seq.nil ⟨(by repeat (first | exact Part.refl _ | exact Part.nil _ | apply Part.here | apply Part.skip)), ?_⟩
      refine Any.done (by kernel_rfl) ?_
      refine JC.rs ?_
      refine Seq.p rfl (Ev.ldBA (cs := w3 (r * 2 + t)) ag.console_three) ?_
      refine Seq.p rfl (Ev.ldBA (cs := w3 d) ag.console_three) ?_
      refine Seq.callP rfl (fun w hw => threeCompare (n := r * 2 + t) (m := d) (by omega) (by omega)) ?_
      refine Seq.p rfl Ev.ge ?_
      refine Seq.nil ?_
      first | refine JC.c (ht := fun c30 => ?_) (hf := fun c30 => ?_) | refine JC.cb (ht := fun c30 => ?_) (hf := fun c30 => ?_)
      · -- then_t30
        have hc : d ≤ r * 2 + t := by unfold cmpF at c30; split at c30 <;> omega
        rw [if_pos hc] at hD1 hD2
        refine JC.rs ?_
        refine Seq.p rfl (Ev.ldBA (cs := w3 (r * 2 + t)) ag.console_three) ?_
        refine Seq.p rfl (Ev.ldBA (cs := w3 d) ag.console_three) ?_
        refine Seq.callP rfl (fun w hw => threeLess (n := r * 2 + t) (m := d) (by omega) hc) ?_
        refine Seq.storeTo (cs' := w3 (n / 2 ^ p % d)) sz.console_three (hfit := Nat.le_of_ble_eq_true rfl) (hcs := by rw [hD2]; rfl) (k := ?_)
        refine Seq.nil ?_
        refine JC.reg ?_
        refine Seq.p rfl (Ev.iaArrB ar.console_three) ?_
        refine Seq.p rfl (Ev.ldB sc.uint64 (hv := w3_get0)) ?_
        refine Seq.p rfl (Ev.orN (b := 1)) ?_
        refine Seq.p rfl (Ev.iaArrB ar.console_three) ?_
        refine Seq.storeTo (cs' := w3 (n / 2 ^ p / d)) sz.uint64 (hfit := Nat.le_of_ble_eq_true rfl) (hcs := by rw [hD1]; exact w3_bit (n := z * 2) (t := 1) (by omega) (by omega)) (k := ?_)
        refine Seq.nil ?_
        refine JC.reg ?_
        refine Seq.p rfl Ev.move ?_
        refine Seq.p rfl Ev.sub ?_
        refine Seq.p rfl Ev.assign ?_
        refine Seq.nil ?_
        exact ⟨p, _, Part.refl _, ⟨Has.mk (by repeat (first | refine Off.upd ?_ rfl | exact Off.mix | refine Off.mix2 ?_ rfl | exact Off.refl)) (allLook_cons (by repeat (first | exact Look.here | apply Look.there (hne := rfl) | exact Look.const | apply Look.mix rfl | exact Look.arg0 | apply Look.args | exact Look.func)) allLook_nil), rfl, by omega⟩, by omega⟩
      · -- else_t30
        have hc : ¬ d ≤ r * 2 + t := by unfold cmpF at c30; split at c30 <;> (try split at c30) <;> omega
        rw [if_neg hc] at hD1 hD2
        rw [Nat.add_zero] at hD1
        rw [Nat.sub_zero] at hD2
        rw [← hD1, ← hD2]
        refine JC.skip ?_
        refine JC.reg ?_
        refine Seq.p rfl Ev.move ?_
        refine Seq.p rfl Ev.sub ?_
        refine Seq.p rfl Ev.assign ?_
        refine Seq.nil ?_
        exact ⟨p, _, Part.refl _, ⟨Has.mk (by repeat (first | refine Off.upd ?_ rfl | exact Off.mix | refine Off.mix2 ?_ rfl | exact Off.refl)) (allLook_cons (by repeat (first | exact Look.here | apply Look.there (hne := rfl) | exact Look.const | apply Look.mix rfl | exact Look.arg0 | apply Look.args | exact Look.func)) allLook_nil), rfl, by omega⟩, by omega⟩
  · -- else_t8
    obtain rfl : q = 0 := by omega
    rw [Nat.pow_zero, Nat.div_one]
    refine JC.exit ?_ -- 0
    refine JC.asP ([.box b3 64 (w3 d), .box b2 64 (w3 n)]) mixed (by repeat (first | exact Part.refl _ | exact Part.nil _ | apply Part.here | apply Part.skip)) ?_
    refine Any.two 0 1 rfl rfl (by kernel_rfl) ?_ ?_
    · -- first 0
      refine Seq.p rfl (Ev.ldBA (cs := w3 (n / d)) ag.console_three) ?_
      refine Seq.nil ⟨(by repeat (first | exact Part.refl _ | exact Part.nil _ | apply Part.here | apply Part.skip)), ?_⟩
      refine Any.two 1 2 rfl rfl (by kernel_rfl) ?_ ?_
      · -- first 1
        refine Seq.p rfl (Ev.ldBA (cs := w3 (n % d)) ag.console_three) ?_
        refine Seq.nil ⟨(by repeat (first | exact Part.refl _ | exact Part.nil _ | apply Part.here | apply Part.skip)), ?_⟩
        refine Any.one 2 rfl (by kernel_rfl) ?_
        refine Seq.storeTo (cs' := w3 (n / d)) sz.console_three (hfit := Nat.le_of_ble_eq_true rfl) (hcs := rfl) (k := ?_)
        refine Seq.nil ⟨(by repeat (first | exact Part.refl _ | exact Part.nil _ | apply Part.here | apply Part.skip)), ?_⟩
        refine Any.one 3 rfl (by kernel_rfl) ?_
        refine Seq.storeTo (cs' := w3 (n % d)) sz.console_three (hfit := Nat.le_of_ble_eq_true rfl) (hcs := rfl) (k := ?_)
        refine Seq.nil ⟨(by repeat (first | exact Part.refl _ | exact Part.nil _ | apply Part.here | apply Part.skip)), ?_⟩
        refine Any.done (by kernel_rfl) ?_
        refine JC.ret ?_
        show retQ _ _ _ _ _ _ _ _
        refine retI (RVs.bA ag.console_three (hs := (RVs.bA ag.console_three (hs := RVs.nil)))) (Part.nil _) ?_
        rfl
      · -- first 2
        refine Seq.storeTo (cs' := w3 (n / d)) sz.console_three (hfit := Nat.le_of_ble_eq_true rfl) (hcs := rfl) (k := ?_)
        refine Seq.nil ⟨(by repeat (first | exact Part.refl _ | exact Part.nil _ | apply Part.here | apply Part.skip)), ?_⟩
        refine Any.one 1 rfl (by kernel_rfl) ?_
        refine Seq.p rfl (Ev.ldBA (cs := w3 (n % d)) ag.console_three) ?_
        refine Seq.nil ⟨(by repeat (first | exact Part.refl _ | exact Part.nil _ | apply Part.here | apply Part.skip)), ?_⟩
        refine Any.one 3 rfl (by kernel_rfl) ?_
        refine Seq.storeTo (cs' := w3 (n % d)) sz.console_three (hfit := Nat.le_of_ble_eq_true rfl) (hcs := rfl) (k := ?_)
        refine Seq.nil ⟨(by repeat (first | exact Part.refl _ | exact Part.nil _ | apply Part.here | apply Part.skip)), ?_⟩
        refine Any.done (by kernel_rfl) ?_
        refine JC.ret ?_
        show retQ _ _ _ _ _ _ _ _
        refine retI (RVs.bA ag.console_three (hs := (RVs.bA ag.console_three (hs := RVs.nil)))) (Part.nil _) ?_
        rfl
    · -- first 1
      refine Seq.p rfl (Ev.ldBA (cs := w3 (n % d)) ag.console_three) ?_
      refine Seq.nil ⟨(by repeat (first | exact Part.refl _ | exact Part.nil _ | apply Part.here | apply Part.skip)), ?_⟩
      refine Any.one 0 rfl (by kernel_rfl) ?_
      refine Seq.p rfl (Ev.ldBA (cs := w3 (n / d)) ag.console_three) ?_
      refine Seq.nil ⟨(by repeat (first | exact Part.refl _ | exact Part.nil _ | apply Part.here | apply Part.skip)), ?_⟩
      refine Any.one 2 rfl (by kernel_rfl) ?_
      refine Seq.storeTo (cs' := w3 (n / d)) sz.console_three (hfit := Nat.le_of_ble_eq_true rfl) (hcs := rfl) (k := ?_)
      refine Seq.nil ⟨(by repeat (first | exact Part.refl _ | exact Part.nil _ | apply Part.here | apply Part.skip)), ?_⟩
      refine Any.one 3 rfl (by kernel_rfl) ?_
      refine Seq.storeTo (cs' := w3 (n % d)) sz.console_three (hfit := Nat.le_of_ble_eq_true rfl) (hcs := rfl) (k := ?_)
      refine Seq.nil ⟨(by repeat (first | exact Part.refl _ | exact Part.nil _ | apply Part.here | apply Part.skip)), ?_⟩
      refine Any.done (by kernel_rfl) ?_
      refine JC.ret ?_
      show retQ _ _ _ _ _ _ _ _
      refine retI (RVs.bA ag.console_three (hs := (RVs.bA ag.console_three (hs := RVs.nil)))) (Part.nil _) ?_
      rfl
end Go.Rx
/- Trades: what one counts; the bar of trades. -/
namespace Go.Rx
open Go Go.RowKit
set_option linter.unusedVariables false
set_option linter.unusedSimpArgs false
structure Trd where
  price : Int
  qty : Nat
deriving DecidableEq, Inhabited
def Trd.enc (t : Trd) : List Value := [.int .i64 t.price, .int .u64 (t.qty : Int)]
def worthF (p : Int) : Nat := if p < 0 ∨ 262144 ≤ p then 0 else p.toNat
theorem worthF_lt (p : Int) : worthF p < 262144 := by
  unfold worthF
  split <;> omega
set_option maxHeartbeats 1000000 in
theorem tradeWorth {w : World} {t : Trd} : Spec Go.Proofs.Try.prog 22 #[.agg t.enc.toArray] w [] (fun u _ => u = .int .u32 (worthF t.price : Int)) := by
  refine Spec.enter (fn := Go.Proofs.Try.f22) (n := 14) [.agg t.enc.toArray] Go.Proofs.Try.func22 (by kernel_rfl) rfl Go.Proofs.Try.ntmps22 Go.Proofs.Try.results22 rfl (Own.nil _) ?_
  refine JC.rs ?_
  refine Seq.box (cs := [_, _]) (k := ?_); intro b1
  refine Seq.p rfl Ev.assign ?_
  refine Seq.nil ?_
  refine JC.seq ?_
  refine JC.rs ?_
  refine Seq.p rfl (Ev.faB fd.console_trade_0) ?_
  refine Seq.p rfl (Ev.ldB sc.int) ?_
  refine Seq.p rfl Ev.lt ?_
  refine Seq.p rfl Ev.move ?_
  refine Seq.orG (D := [6, 7, 8, 9, 10]) (d := 6) (t := 10) (k := 4) (hn := fun h6 => ?_) (hx := ?_)
  · repeat (first | refine Seq.gn rfl rfl rfl rfl ?_ | refine Seq.gu rfl rfl rfl ?_)
    refine Seq.p rfl Ev.pickT ?_
    exact Seq.nil ⟨rfl, (by repeat (first | with_reducible exact Off.refl | refine Off.upd ?_ rfl | exact Off.mix | refine Off.mix2 ?_ rfl)), Look.here⟩
  apply Exists.intro
  refine ⟨fun h6 => ?_, fun u10 => ?_⟩
  · try simp only [decide_eq_true_eq, decide_eq_false_iff_not, Bool.and_eq_true, Bool.or_eq_true, Bool.not_eq_true', Bool.not_eq_false', Bool.or_eq_false_iff, Bool.and_eq_false_imp] at h6
    refine Seq.gy rfl rfl rfl ?_
    refine Seq.p rfl (Ev.faB fd.console_trade_0) ?_
    refine Seq.gy rfl rfl rfl ?_
    refine Seq.p rfl (Ev.ldB sc.int) ?_
    refine Seq.gy rfl rfl rfl ?_
    refine Seq.p rfl Ev.ge ?_
    refine Seq.p rfl Ev.pickF ?_
    exact Seq.nil ⟨rfl, (by repeat (first | with_reducible exact Off.refl | refine Off.upd ?_ rfl | exact Off.mix | refine Off.mix2 ?_ rfl)), Look.here⟩
  refine Seq.nil ?_
  first | refine JC.c (ht := fun c10 => ?_) (hf := fun c10 => ?_) | refine JC.cb (ht := fun c10 => ?_) (hf := fun c10 => ?_)
  · -- then_t10
    refine JC.rs ?_
    refine Seq.p rfl Ev.assign ?_
    refine Seq.nil ?_
    refine JC.ret ?_
    show retQ _ _ _ _ _ _ _ _
    refine ret1 (hp := Part.nil _) (hpost := ?_)
    unfold worthF; simp only [Bool.or_eq_true, decide_eq_true_eq] at c10; rw [if_pos c10]; rfl
  · -- else_t10
    refine JC.skip ?_
    refine JC.rs ?_
    refine Seq.p rfl (Ev.faB fd.console_trade_0) ?_
    refine Seq.p rfl (Ev.ldB sc.int) ?_
    refine Seq.p rfl (Ev.convU32 it.int it.uint32 (h := by simp only [Bool.or_eq_false_iff, decide_eq_false_iff_not] at c10; omega)) ?_
    refine Seq.p rfl Ev.assign ?_
    refine Seq.nil ?_
    refine JC.ret ?_
    show retQ _ _ _ _ _ _ _ _
    refine ret1 (hp := Part.nil _) (hpost := ?_)
    unfold worthF; simp only [Bool.or_eq_false_iff, decide_eq_false_iff_not] at c10; rw [if_neg (by omega), Int.toNat_of_nonneg (by omega)]
structure Bar where
  op : Int
  hi : Int
  lo : Int
  cl : Int
  vol : Nat
  n : Nat
deriving DecidableEq, Inhabited
def Bar.enc (b : Bar) : List Value := [.int .i64 b.op, .int .i64 b.hi, .int .i64 b.lo, .int .i64 b.cl, .int .u64 (b.vol : Int), .int .i64 (b.n : Int)]
def barStep (b : Bar) (t : Trd) : Bar := ⟨if b.n = 0 then t.price else b.op, if b.n = 0 then t.price else max b.hi t.price, if b.n = 0 then t.price else min b.lo t.price, t.price, ((if b.n = 0 then 0 else b.vol) + t.qty) % 18446744073709551616, b.n + 1⟩
def barF (l : List Trd) : Bar := l.foldl barStep ⟨0, 0, 0, 0, 0, 0⟩
theorem foldl_barStep_n (l : List Trd) (b : Bar) : (l.foldl barStep b).n = b.n + l.length := by
  induction l generalizing b with
  | nil => rfl
  | cons t l ih => rw [List.foldl_cons, ih, List.length_cons]; show b.n + 1 + _ = _; omega
theorem barF_n (l : List Trd) : (barF l).n = l.length := by
  rw [barF, foldl_barStep_n]
  exact Nat.zero_add _
theorem barF_vol (l : List Trd) : (barF l).vol < 18446744073709551616 := by
  suffices h : ∀ (l : List Trd) (b : Bar), b.vol < 18446744073709551616 → (l.foldl barStep b).vol < 18446744073709551616 from h l _ (by decide)
  intro l
  induction l with
  | nil => intro b h; exact h
  | cons t l ih => intro b h; exact ih _ (Nat.mod_lt _ (by decide))
theorem barF_take {l : List Trd} {i : Nat} (hi : i < l.length) : barF (l.take (i + 1)) = barStep (barF (l.take i)) l[i]! := by
  rw [List.take_succ_eq_append_getElem hi, barF, List.foldl_append, getElem!_pos l i hi]
  rfl
set_option maxHeartbeats 2000000 in
set_option maxRecDepth 100000 in
theorem consoleBar {w : World} {v : Value} {l : List Trd} (hl : RSl Trd.enc 2 w [] v l) (hq : ∀ t ∈ l, t.qty < 18446744073709551616) : Spec Go.Proofs.Try.prog 20 #[v] w [] (fun u _ => u = .agg (barF l).enc.toArray) := by
  have hs := hl.small
  refine Spec.enter (fn := Go.Proofs.Try.f20) (n := 49) [v] Go.Proofs.Try.func20 (by kernel_rfl) rfl Go.Proofs.Try.ntmps20 Go.Proofs.Try.results20 rfl (Own.nil _) ?_
  refine JC.rs ?_
  refine Seq.alloc (cs := [_, _, _, _, _, _]) (hz := z.api_Bar) (k := ?_); intro b2
  refine Seq.nil ?_
  refine JC.rs ?_
  refine Seq.alloc (cs := [_, _, _, _, _, _]) (hz := z.api_Bar) (k := ?_); intro b3
  refine Seq.nil ?_
  refine JC.seq ?_
  refine JC.rs ?_
  refine Seq.p rfl Ev.move ?_
  refine Seq.p rfl (Ev.lenSl sl.sl_console_trade (hr := hl.r)) ?_
  refine Seq.p rfl Ev.move ?_
  refine Seq.nil ?_
  refine JC.blk ?_
  refine JC.loop (α := Nat) (I := fun i e1 H1 => Has [4, 5, 8, 9, 10, 11, 12, 13, 14, 15, 16, 17, 18, 19, 20, 21, 22, 23, 24, 25, 26, 27, 28, 29, 30, 31, 32, 33, 34, 35, 36, 37, 38, 39, 40, 41, 42, 43, 44, 45, 46, 47] [(8, .int .i64 (i : Int))] _ e1 ∧ H1 = [.box b3 30 (barF (l.take i)).enc, _] ∧ i ≤ l.length) (μ := fun i => l.length - i) 0 ⟨Has.mk Off.refl (allLook_cons (by repeat (first | exact Look.here | apply Look.there (hne := rfl) | exact Look.const | apply Look.mix rfl | exact Look.arg0 | apply Look.args | exact Look.func)) allLook_nil), rfl, by omega⟩ ?_
  rintro i _ _ ⟨⟨u, rfl⟩, rfl, hi⟩; dsimp only [setL]
  refine JC.rs ?_
  refine Seq.p rfl Ev.lt ?_
  refine Seq.nil ?_
  refine JC.seq ?_
  first | refine JC.c (ht := fun c9 => ?_) (hf := fun c9 => ?_) | refine JC.cb (ht := fun c9 => ?_) (hf := fun c9 => ?_)
  · -- then_t9
    have hi2 : i < l.length := by omega
    have hn := barF_n (l.take i)
    have hv := barF_vol (l.take i)
    rw [List.length_take, Nat.min_eq_left hi] at hn
    have hst := barF_take hi2
    obtain ⟨t, ht⟩ : ∃ t, t = l[i]! := ⟨_, rfl⟩
    obtain ⟨b, hb⟩ : ∃ b, b = barF (l.take i) := ⟨_, rfl⟩
    rw [← ht, ← hb] at hst
    rw [← hb] at hn hv ⊢
    have htq : t.qty < 18446744073709551616 := by rw [ht, getElem!_pos l i hi2]; exact hq _ (List.getElem_mem hi2)
    refine JC.skip ?_
    refine JC.seq ?_
    refine JC.blk ?_
    refine JC.rs ?_
    refine Seq.p rfl Ev.move ?_
    refine Seq.p rfl (Ev.iaN sl.sl_console_trade (hr := hl.r)) ?_
    refine Seq.p rfl (Ev.ldEA ag.console_trade (hr := hl.r)) ?_
    refine Seq.alloc (cs := [_, _]) (hz := z.console_trade) (k := ?_); intro b5
    refine Seq.p rfl Ev.assign ?_
    refine Seq.storeN [_, _] sz.console_trade (k := ?_)
    refine Seq.nil ?_
    refine JC.seq ?_
    refine JC.rs ?_
    refine Seq.p rfl Ev.move ?_
    refine Seq.p rfl Ev.eq ?_
    refine Seq.nil ?_
    first | refine JC.c (ht := fun c14 => ?_) (hf := fun c14 => ?_) | refine JC.cb (ht := fun c14 => ?_) (hf := fun c14 => ?_)
    · -- then_t14
      have h0 : b.n = 0 := by omega
      refine JC.reg ?_
      refine Seq.p rfl (Ev.faB fd.console_trade_0) ?_
      refine Seq.p rfl (Ev.ldB sc.int) ?_
      refine Seq.p rfl (Ev.faB fd.console_trade_0) ?_
      refine Seq.p rfl (Ev.ldB sc.int) ?_
      refine Seq.p rfl (Ev.faB fd.console_trade_0) ?_
      refine Seq.p rfl (Ev.ldB sc.int) ?_
      refine Seq.p rfl (Ev.buildN [_, _, _, _, _, _] pl.api_Bar z.api_Bar) ?_
      refine Seq.storeN [_, _, _, _, _, _] sz.api_Bar (k := ?_)
      refine Seq.nil ?_
      refine JC.asE 1 mixed ?_
      refine Any.p 0 rfl (by kernel_rfl) (by kernel_rfl) (by kernel_rfl) rfl (Ev.faB fd.api_Bar_1) ?_
      refine Any.p 2 rfl (by kernel_rfl) (by kernel_rfl) (by kernel_rfl) rfl (Ev.faB fd.console_trade_0) ?_
      refine Any.p 3 rfl (by kernel_rfl) (by kernel_rfl) (by kernel_rfl) rfl (Ev.ldB sc.int) ?_
      refine Any.p 5 rfl (by kernel_rfl) (by kernel_rfl) (by kernel_rfl) rfl (Ev.faB fd.api_Bar_2) ?_
      refine Any.p 7 rfl (by kernel_rfl) (by kernel_rfl) (by kernel_rfl) rfl (Ev.faB fd.console_trade_0) ?_
      refine Any.p 8 rfl (by kernel_rfl) (by kernel_rfl) (by kernel_rfl) rfl (Ev.ldB sc.int) ?_
      refine Any.p 10 rfl (by kernel_rfl) (by kernel_rfl) (by kernel_rfl) rfl (Ev.faB fd.console_trade_0) ?_
      refine Any.p 11 rfl (by kernel_rfl) (by kernel_rfl) (by kernel_rfl) rfl (Ev.ldB sc.int) ?_
      refine Any.two 1 6 rfl rfl (by kernel_rfl) ?_ ?_
      · -- first 1
        refine Seq.p rfl (Ev.ldB sc.int) ?_
        refine Seq.nil ⟨(by repeat (first | exact Part.refl _ | exact Part.nil _ | apply Part.here | apply Part.skip)), ?_⟩
        refine Any.p 4 rfl (by kernel_rfl) (by kernel_rfl) (by kernel_rfl) rfl (Ev.max (ts := [3, 3])) ?_
        refine Any.one 6 rfl (by kernel_rfl) ?_
        refine Seq.p rfl (Ev.ldB sc.int) ?_
        refine Seq.nil ⟨(by repeat (first | exact Part.refl _ | exact Part.nil _ | apply Part.here | apply Part.skip)), ?_⟩
        refine Any.p 9 rfl (by kernel_rfl) (by kernel_rfl) (by kernel_rfl) rfl (Ev.min (ts := [3, 3])) ?_
        refine Any.p 12 rfl (by kernel_rfl) (by kernel_rfl) (by kernel_rfl) rfl (Ev.faB fd.api_Bar_1) ?_
        refine Any.one 13 rfl (by kernel_rfl) ?_
        refine Seq.storeN [_, _, _, _, _, _] sz.int (k := ?_)
        refine Seq.nil ⟨(by repeat (first | exact Part.refl _ | exact Part.nil _ | apply Part.here | apply Part.skip)), ?_⟩
        refine Any.p 14 rfl (by kernel_rfl) (by kernel_rfl) (by kernel_rfl) rfl (Ev.faB fd.api_Bar_2) ?_
        refine Any.one 15 rfl (by kernel_rfl) ?_
        refine Seq.storeN [_, _, _, _, _, _] sz.int (k := ?_)
        refine Seq.nil ⟨(by repeat (first | exact Part.refl _ | exact Part.nil _ | apply Part.here | apply Part.skip)), ?_⟩
        refine Any.p 16 rfl (by kernel_rfl) (by kernel_rfl) (by kernel_rfl) rfl (Ev.faB fd.api_Bar_3) ?_
        refine Any.one 17 rfl (by kernel_rfl) ?_
        refine Seq.storeN [_, _, _, _, _, _] sz.int (k := ?_)
        refine Seq.nil ⟨(by repeat (first | exact Part.refl _ | exact Part.nil _ | apply Part.here | apply Part.skip)), ?_⟩
        refine Any.done (by kernel_rfl) ?_
        refine JC.rs ?_
        refine Seq.p rfl (Ev.faB fd.api_Bar_4) ?_
        refine Seq.p rfl (Ev.ldB sc.uint64) ?_
        refine Seq.p rfl (Ev.faB fd.console_trade_1) ?_
        refine Seq.p rfl (Ev.ldB sc.uint64) ?_
        refine Seq.p rfl Ev.addU ?_
        refine Seq.p rfl (Ev.faB fd.api_Bar_4) ?_
        refine Seq.storeN [_, _, _, _, _, _] sz.uint64 (k := ?_)
        refine Seq.nil ?_
        refine JC.reg ?_
        refine Seq.p rfl (Ev.faB fd.api_Bar_5) ?_
        refine Seq.p rfl (Ev.ldB sc.int) ?_
        refine Seq.p rfl (by first | exact Ev.inc | exact Ev.add) ?_
        refine Seq.p rfl (Ev.faB fd.api_Bar_5) ?_
        refine Seq.storeN [_, _, _, _, _, _] sz.int (k := ?_)
        refine Seq.nil ?_
        refine JC.reg ?_
        refine Seq.p rfl (by first | exact Ev.inc | exact Ev.add) ?_
        refine Seq.p rfl Ev.move ?_
        refine Seq.nil ?_
        refine ⟨i + 1, _, Part.skip (Part.refl _), ⟨Has.mk (by repeat (first | refine Off.upd ?_ rfl | exact Off.mix | refine Off.mix2 ?_ rfl | exact Off.refl)) (allLook_cons (by repeat (first | exact Look.here | apply Look.there (hne := rfl) | exact Look.const | apply Look.mix rfl | exact Look.arg0 | apply Look.args | exact Look.func)) allLook_nil), ?_, by omega⟩, by omega⟩
        rw [hst, ← ht]
        first | simp [barStep, Bar.enc, h0]; done | (simp [barStep, Bar.enc, h0]; refine ⟨?_, ?_⟩ <;> split <;> omega)
      · -- first 6
        refine Seq.p rfl (Ev.ldB sc.int) ?_
        refine Seq.nil ⟨(by repeat (first | exact Part.refl _ | exact Part.nil _ | apply Part.here | apply Part.skip)), ?_⟩
        refine Any.p 9 rfl (by kernel_rfl) (by kernel_rfl) (by kernel_rfl) rfl (Ev.min (ts := [3, 3])) ?_
        refine Any.one 1 rfl (by kernel_rfl) ?_
        refine Seq.p rfl (Ev.ldB sc.int) ?_
        refine Seq.nil ⟨(by repeat (first | exact Part.refl _ | exact Part.nil _ | apply Part.here | apply Part.skip)), ?_⟩
        refine Any.p 4 rfl (by kernel_rfl) (by kernel_rfl) (by kernel_rfl) rfl (Ev.max (ts := [3, 3])) ?_
        refine Any.p 12 rfl (by kernel_rfl) (by kernel_rfl) (by kernel_rfl) rfl (Ev.faB fd.api_Bar_1) ?_
        refine Any.one 13 rfl (by kernel_rfl) ?_
        refine Seq.storeN [_, _, _, _, _, _] sz.int (k := ?_)
        refine Seq.nil ⟨(by repeat (first | exact Part.refl _ | exact Part.nil _ | apply Part.here | apply Part.skip)), ?_⟩
        refine Any.p 14 rfl (by kernel_rfl) (by kernel_rfl) (by kernel_rfl) rfl (Ev.faB fd.api_Bar_2) ?_
        refine Any.one 15 rfl (by kernel_rfl) ?_
        refine Seq.storeN [_, _, _, _, _, _] sz.int (k := ?_)
        refine Seq.nil ⟨(by repeat (first | exact Part.refl _ | exact Part.nil _ | apply Part.here | apply Part.skip)), ?_⟩
        refine Any.p 16 rfl (by kernel_rfl) (by kernel_rfl) (by kernel_rfl) rfl (Ev.faB fd.api_Bar_3) ?_
        refine Any.one 17 rfl (by kernel_rfl) ?_
        refine Seq.storeN [_, _, _, _, _, _] sz.int (k := ?_)
        refine Seq.nil ⟨(by repeat (first | exact Part.refl _ | exact Part.nil _ | apply Part.here | apply Part.skip)), ?_⟩
        refine Any.done (by kernel_rfl) ?_
        refine JC.rs ?_
        refine Seq.p rfl (Ev.faB fd.api_Bar_4) ?_
        refine Seq.p rfl (Ev.ldB sc.uint64) ?_
        refine Seq.p rfl (Ev.faB fd.console_trade_1) ?_
        refine Seq.p rfl (Ev.ldB sc.uint64) ?_
        refine Seq.p rfl Ev.addU ?_
        refine Seq.p rfl (Ev.faB fd.api_Bar_4) ?_
        refine Seq.storeN [_, _, _, _, _, _] sz.uint64 (k := ?_)
        refine Seq.nil ?_
        refine JC.reg ?_
        refine Seq.p rfl (Ev.faB fd.api_Bar_5) ?_
        refine Seq.p rfl (Ev.ldB sc.int) ?_
        refine Seq.p rfl (by first | exact Ev.inc | exact Ev.add) ?_
        refine Seq.p rfl (Ev.faB fd.api_Bar_5) ?_
        refine Seq.storeN [_, _, _, _, _, _] sz.int (k := ?_)
        refine Seq.nil ?_
        refine JC.reg ?_
        refine Seq.p rfl (by first | exact Ev.inc | exact Ev.add) ?_
        refine Seq.p rfl Ev.move ?_
        refine Seq.nil ?_
        refine ⟨i + 1, _, Part.skip (Part.refl _), ⟨Has.mk (by repeat (first | refine Off.upd ?_ rfl | exact Off.mix | refine Off.mix2 ?_ rfl | exact Off.refl)) (allLook_cons (by repeat (first | exact Look.here | apply Look.there (hne := rfl) | exact Look.const | apply Look.mix rfl | exact Look.arg0 | apply Look.args | exact Look.func)) allLook_nil), ?_, by omega⟩, by omega⟩
        rw [hst, ← ht]
        first | simp [barStep, Bar.enc, h0]; done | (simp [barStep, Bar.enc, h0]; refine ⟨?_, ?_⟩ <;> split <;> omega)
    · -- else_t14
      have h0 : ¬ b.n = 0 := by omega
      refine JC.skip ?_
      refine JC.asE 1 mixed ?_
      refine Any.p 0 rfl (by kernel_rfl) (by kernel_rfl) (by kernel_rfl) rfl (Ev.faB fd.api_Bar_1) ?_
      refine Any.p 2 rfl (by kernel_rfl) (by kernel_rfl) (by kernel_rfl) rfl (Ev.faB fd.console_trade_0) ?_
      refine Any.p 3 rfl (by kernel_rfl) (by kernel_rfl) (by kernel_rfl) rfl (Ev.ldB sc.int) ?_
      refine Any.p 5 rfl (by kernel_rfl) (by kernel_rfl) (by kernel_rfl) rfl (Ev.faB fd.api_Bar_2) ?_
      refine Any.p 7 rfl (by kernel_rfl) (by kernel_rfl) (by kernel_rfl) rfl (Ev.faB fd.console_trade_0) ?_
      refine Any.p 8 rfl (by kernel_rfl) (by kernel_rfl) (by kernel_rfl) rfl (Ev.ldB sc.int) ?_
      refine Any.p 10 rfl (by kernel_rfl) (by kernel_rfl) (by kernel_rfl) rfl (Ev.faB fd.console_trade_0) ?_
      refine Any.p 11 rfl (by kernel_rfl) (by kernel_rfl) (by kernel_rfl) rfl (Ev.ldB sc.int) ?_
      refine Any.two 1 6 rfl rfl (by kernel_rfl) ?_ ?_
      · -- first 1
        refine Seq.p rfl (Ev.ldB sc.int) ?_
        refine Seq.nil ⟨(by repeat (first | exact Part.refl _ | exact Part.nil _ | apply Part.here | apply Part.skip)), ?_⟩
        refine Any.p 4 rfl (by kernel_rfl) (by kernel_rfl) (by kernel_rfl) rfl (Ev.max (ts := [3, 3])) ?_
        refine Any.one 6 rfl (by kernel_rfl) ?_
        refine Seq.p rfl (Ev.ldB sc.int) ?_
        refine Seq.nil ⟨(by repeat (first | exact Part.refl _ | exact Part.nil _ | apply Part.here | apply Part.skip)), ?_⟩
        refine Any.p 9 rfl (by kernel_rfl) (by kernel_rfl) (by kernel_rfl) rfl (Ev.min (ts := [3, 3])) ?_
        refine Any.p 12 rfl (by kernel_rfl) (by kernel_rfl) (by kernel_rfl) rfl (Ev.faB fd.api_Bar_1) ?_
        refine Any.one 13 rfl (by kernel_rfl) ?_
        refine Seq.storeN [_, _, _, _, _, _] sz.int (k := ?_)
        refine Seq.nil ⟨(by repeat (first | exact Part.refl _ | exact Part.nil _ | apply Part.here | apply Part.skip)), ?_⟩
        refine Any.p 14 rfl (by kernel_rfl) (by kernel_rfl) (by kernel_rfl) rfl (Ev.faB fd.api_Bar_2) ?_
        refine Any.one 15 rfl (by kernel_rfl) ?_
        refine Seq.storeN [_, _, _, _, _, _] sz.int (k := ?_)
        refine Seq.nil ⟨(by repeat (first | exact Part.refl _ | exact Part.nil _ | apply Part.here | apply Part.skip)), ?_⟩
        refine Any.p 16 rfl (by kernel_rfl) (by kernel_rfl) (by kernel_rfl) rfl (Ev.faB fd.api_Bar_3) ?_
        refine Any.one 17 rfl (by kernel_rfl) ?_
        refine Seq.storeN [_, _, _, _, _, _] sz.int (k := ?_)
        refine Seq.nil ⟨(by repeat (first | exact Part.refl _ | exact Part.nil _ | apply Part.here | apply Part.skip)), ?_⟩
        refine Any.done (by kernel_rfl) ?_
        refine JC.rs ?_
        refine Seq.p rfl (Ev.faB fd.api_Bar_4) ?_
        refine Seq.p rfl (Ev.ldB sc.uint64) ?_
        refine Seq.p rfl (Ev.faB fd.console_trade_1) ?_
        refine Seq.p rfl (Ev.ldB sc.uint64) ?_
        refine Seq.p rfl Ev.addU ?_
        refine Seq.p rfl (Ev.faB fd.api_Bar_4) ?_
        refine Seq.storeN [_, _, _, _, _, _] sz.uint64 (k := ?_)
        refine Seq.nil ?_
        refine JC.reg ?_
        refine Seq.p rfl (Ev.faB fd.api_Bar_5) ?_
        refine Seq.p rfl (Ev.ldB sc.int) ?_
        refine Seq.p rfl (by first | exact Ev.inc | exact Ev.add) ?_
        refine Seq.p rfl (Ev.faB fd.api_Bar_5) ?_
        refine Seq.storeN [_, _, _, _, _, _] sz.int (k := ?_)
        refine Seq.nil ?_
        refine JC.reg ?_
        refine Seq.p rfl (by first | exact Ev.inc | exact Ev.add) ?_
        refine Seq.p rfl Ev.move ?_
        refine Seq.nil ?_
        refine ⟨i + 1, _, Part.skip (Part.refl _), ⟨Has.mk (by repeat (first | refine Off.upd ?_ rfl | exact Off.mix | refine Off.mix2 ?_ rfl | exact Off.refl)) (allLook_cons (by repeat (first | exact Look.here | apply Look.there (hne := rfl) | exact Look.const | apply Look.mix rfl | exact Look.arg0 | apply Look.args | exact Look.func)) allLook_nil), ?_, by omega⟩, by omega⟩
        rw [hst, ← ht]
        first | simp [barStep, Bar.enc, h0]; done | (simp [barStep, Bar.enc, h0]; refine ⟨?_, ?_⟩ <;> split <;> omega)
      · -- first 6
        refine Seq.p rfl (Ev.ldB sc.int) ?_
        refine Seq.nil ⟨(by repeat (first | exact Part.refl _ | exact Part.nil _ | apply Part.here | apply Part.skip)), ?_⟩
        refine Any.p 9 rfl (by kernel_rfl) (by kernel_rfl) (by kernel_rfl) rfl (Ev.min (ts := [3, 3])) ?_
        refine Any.one 1 rfl (by kernel_rfl) ?_
        refine Seq.p rfl (Ev.ldB sc.int) ?_
        refine Seq.nil ⟨(by repeat (first | exact Part.refl _ | exact Part.nil _ | apply Part.here | apply Part.skip)), ?_⟩
        refine Any.p 4 rfl (by kernel_rfl) (by kernel_rfl) (by kernel_rfl) rfl (Ev.max (ts := [3, 3])) ?_
        refine Any.p 12 rfl (by kernel_rfl) (by kernel_rfl) (by kernel_rfl) rfl (Ev.faB fd.api_Bar_1) ?_
        refine Any.one 13 rfl (by kernel_rfl) ?_
        refine Seq.storeN [_, _, _, _, _, _] sz.int (k := ?_)
        refine Seq.nil ⟨(by repeat (first | exact Part.refl _ | exact Part.nil _ | apply Part.here | apply Part.skip)), ?_⟩
        refine Any.p 14 rfl (by kernel_rfl) (by kernel_rfl) (by kernel_rfl) rfl (Ev.faB fd.api_Bar_2) ?_
        refine Any.one 15 rfl (by kernel_rfl) ?_
        refine Seq.storeN [_, _, _, _, _, _] sz.int (k := ?_)
        refine Seq.nil ⟨(by repeat (first | exact Part.refl _ | exact Part.nil _ | apply Part.here | apply Part.skip)), ?_⟩
        refine Any.p 16 rfl (by kernel_rfl) (by kernel_rfl) (by kernel_rfl) rfl (Ev.faB fd.api_Bar_3) ?_
        refine Any.one 17 rfl (by kernel_rfl) ?_
        refine Seq.storeN [_, _, _, _, _, _] sz.int (k := ?_)
        refine Seq.nil ⟨(by repeat (first | exact Part.refl _ | exact Part.nil _ | apply Part.here | apply Part.skip)), ?_⟩
        refine Any.done (by kernel_rfl) ?_
        refine JC.rs ?_
        refine Seq.p rfl (Ev.faB fd.api_Bar_4) ?_
        refine Seq.p rfl (Ev.ldB sc.uint64) ?_
        refine Seq.p rfl (Ev.faB fd.console_trade_1) ?_
        refine Seq.p rfl (Ev.ldB sc.uint64) ?_
        refine Seq.p rfl Ev.addU ?_
        refine Seq.p rfl (Ev.faB fd.api_Bar_4) ?_
        refine Seq.storeN [_, _, _, _, _, _] sz.uint64 (k := ?_)
        refine Seq.nil ?_
        refine JC.reg ?_
        refine Seq.p rfl (Ev.faB fd.api_Bar_5) ?_
        refine Seq.p rfl (Ev.ldB sc.int) ?_
        refine Seq.p rfl (by first | exact Ev.inc | exact Ev.add) ?_
        refine Seq.p rfl (Ev.faB fd.api_Bar_5) ?_
        refine Seq.storeN [_, _, _, _, _, _] sz.int (k := ?_)
        refine Seq.nil ?_
        refine JC.reg ?_
        refine Seq.p rfl (by first | exact Ev.inc | exact Ev.add) ?_
        refine Seq.p rfl Ev.move ?_
        refine Seq.nil ?_
        refine ⟨i + 1, _, Part.skip (Part.refl _), ⟨Has.mk (by repeat (first | refine Off.upd ?_ rfl | exact Off.mix | refine Off.mix2 ?_ rfl | exact Off.refl)) (allLook_cons (by repeat (first | exact Look.here | apply Look.there (hne := rfl) | exact Look.const | apply Look.mix rfl | exact Look.arg0 | apply Look.args | exact Look.func)) allLook_nil), ?_, by omega⟩, by omega⟩
        rw [hst, ← ht]
        first | simp [barStep, Bar.enc, h0]; done | (simp [barStep, Bar.enc, h0]; refine ⟨?_, ?_⟩ <;> split <;> omega)
  · -- else_t9
    obtain rfl : i = l.length := by omega
    rw [List.take_length]
    refine JC.exit ?_ -- 0
    refine JC.rs ?_
    refine Seq.p rfl (Ev.ldBA (cs := (barF l).enc) ag.api_Bar) ?_
    refine Seq.storeTo (cs' := (barF l).enc) sz.api_Bar (hH := At.s At.z) (hfit := Nat.le_of_ble_eq_true rfl) (hcs := rfl) (k := ?_)
    refine Seq.nil ?_
    refine JC.ret ?_
    show retQ _ _ _ _ _ _ _ _
    refine retB1 ag.api_Bar (cs := (barF l).enc) (hp := Part.nil _) (hpost := ?_)
    rfl
end Go.Rx
/- The day's statistics: the day's bar, its bars. -/
namespace Go.Rx
open Go Go.RowKit
set_option linter.unusedVariables false
set_option linter.unusedSimpArgs false
def barsF (k : Nat) (l : List Trd) : List Bar := if h : k = 0 ∨ l = [] then [] else barF (l.take k) :: barsF k (l.drop k)
termination_by l.length
decreasing_by
  rw [List.length_drop]
  have h1 : 0 < l.length := List.length_pos_iff.2 fun h2 => h (.inr h2)
  omega
theorem barsF_nil (k : Nat) : barsF k [] = [] := by rw [barsF, dif_pos (.inr rfl)]
theorem barsF_cons {k : Nat} {l : List Trd} (hk : 0 < k) (hl : 0 < l.length) : barsF k l = barF (l.take k) :: barsF k (l.drop k) := by
  rw [barsF, dif_neg]
  rintro (h | rfl)
  · omega
  · simp at hl
theorem barsF_len (k : Nat) : ∀ (n : Nat) (l : List Trd), l.length ≤ n → (barsF k l).length ≤ l.length := by
  intro n
  induction n with
  | zero => intro l h; obtain rfl : l = [] := List.eq_nil_of_length_eq_zero (by omega); rw [barsF_nil]; exact Nat.le_refl _
  | succ n ih =>
    intro l h
    by_cases hk : k = 0
    · rw [barsF, dif_pos (.inl hk)]; exact Nat.zero_le _
    by_cases hl : l.length = 0
    · obtain rfl : l = [] := List.eq_nil_of_length_eq_zero hl; rw [barsF_nil]; exact Nat.le_refl _
    rw [barsF_cons (by omega) (by omega), List.length_cons]
    have := ih (l.drop k) (by rw [List.length_drop]; omega)
    rw [List.length_drop] at this
    omega
set_option maxHeartbeats 1000000 in
theorem statsDay {w : World} {bs : Nat} {sv : Value} {l : List Trd} (hc : Cell w [] ⟨bs, 0, none⟩ sv) (hl : RSl Trd.enc 2 w [] sv l) (hq : ∀ t ∈ l, t.qty < 18446744073709551616) : Spec Go.Proofs.Try.prog 8 #[.pointer (some ⟨bs, 0, none⟩)] w [] (fun u _ => u = .agg (barF l).enc.toArray) := by
  refine Spec.enter (fn := Go.Proofs.Try.f8) (n := 8) [.pointer (some ⟨bs, 0, none⟩)] Go.Proofs.Try.func8 (by kernel_rfl) rfl Go.Proofs.Try.ntmps8 Go.Proofs.Try.results8 rfl (Own.nil _) ?_
  refine JC.rs ?_
  refine Seq.alloc (cs := [_, _, _, _, _, _]) (hz := z.api_Bar) (k := ?_); intro b2
  refine Seq.nil ?_
  refine JC.rs ?_
  refine Seq.p rfl Ev.move ?_
  refine Seq.p rfl Ev.nilP ?_
  refine Seq.p rfl (Ev.fa fd.console_Stats_0) ?_
  refine Seq.p rfl (Ev.ldS sc.sl_console_trade (Cells.cell hc)) ?_
  refine Seq.callP rfl (fun w hw => consoleBar (l := l) (hl.up hw) hq) ?_
  refine Seq.storeTo (cs' := (barF l).enc) sz.api_Bar (hH := At.z) (hfit := Nat.le_of_ble_eq_true rfl) (hcs := rfl) (k := ?_)
  refine Seq.nil ?_
  refine JC.ret ?_
  show retQ _ _ _ _ _ _ _ _
  refine retB1 ag.api_Bar (cs := (barF l).enc) (hp := Part.nil _) (hpost := ?_)
  rfl
set_option maxHeartbeats 2000000 in
set_option maxRecDepth 100000 in
theorem statsBars {w : World} {bs : Nat} {sv : Value} {l : List Trd} {each : Int} (hc : Cell w [] ⟨bs, 0, none⟩ sv) (hl : RSl Trd.enc 2 w [] sv l) (hq : ∀ t ∈ l, t.qty < 18446744073709551616) (hlim : l.length * 48 ≤ 140737488355328) :
    Spec Go.Proofs.Try.prog 6 #[.pointer (some ⟨bs, 0, none⟩), .int .i64 each] w [] (fun u F' => ∃ A c, u = .slice A (barsF each.toNat l).length c ∧ F' = [.own 30 6 (.slice A (barsF each.toNat l).length c) (barsF each.toNat l).length ((barsF each.toNat l).flatMap Bar.enc)]) := by
  have hs := hl.small
  refine Spec.enter (fn := Go.Proofs.Try.f6) (n := 32) [.pointer (some ⟨bs, 0, none⟩), .int .i64 each] Go.Proofs.Try.func6 (by kernel_rfl) rfl Go.Proofs.Try.ntmps6 Go.Proofs.Try.results6 rfl (Own.nil _) ?_
  refine JC.rs ?_
  refine Seq.p rfl Ev.assign ?_
  refine Seq.nil ?_
  refine JC.seq ?_
  refine JC.rs ?_
  refine Seq.p rfl Ev.move ?_
  refine Seq.p rfl Ev.lt ?_
  refine Seq.nil ?_
  first | refine JC.c (ht := fun c9 => ?_) (hf := fun c9 => ?_) | refine JC.cb (ht := fun c9 => ?_) (hf := fun c9 => ?_)
  · -- then_t9
    refine JC.rs ?_
    refine Seq.p rfl Ev.assign ?_
    refine Seq.nil ?_
    refine JC.re (fun w h => Upd.nilOwn h 30 6) ?_
    refine JC.ret ?_
    show retQ _ _ _ _ _ _ _ _
    refine ret1 (H' := [.own 30 6 (.slice none 0 0) 0 []]) (hp := Part.refl _) (hpost := ?_)
    have e : barsF each.toNat l = [] := by rw [barsF, dif_pos (.inl (by omega))]
    rw [e]
    exact ⟨none, 0, rfl, rfl⟩
  · -- else_t9
    obtain ⟨k, rfl⟩ : ∃ k : Nat, each = (k : Int) := ⟨each.toNat, by omega⟩
    have hk : 0 < k := by omega
    rw [Int.toNat_natCast]
    refine JC.skip ?_
    refine JC.rs ?_
    refine Seq.p rfl Ev.assign ?_
    refine Seq.re (fun w h => Upd.nilOwn h 30 6) ?_
    refine Seq.nil ?_
    refine JC.seq ?_
    refine JC.rs ?_
    refine Seq.p rfl Ev.move ?_
    refine Seq.p rfl Ev.nilP ?_
    refine Seq.p rfl (Ev.fa fd.console_Stats_0) ?_
    refine Seq.p rfl (Ev.ldS sc.sl_console_trade (Cells.cell hc)) ?_
    refine Seq.p rfl Ev.assign ?_
    refine Seq.nil ?_
    refine JC.blk ?_
    refine JC.loop (α := Nat) (I := fun p e1 H1 => ∃ rv A c ds, Has [5, 6, 7, 14, 15, 16, 17, 18, 19, 20, 21, 22, 23, 24, 25, 26, 27, 28, 29, 30] [(5, .slice A ds.length c), (6, rv)] _ e1 ∧ RSl Trd.enc 2 w [] rv (l.drop p) ∧ H1 = [.own 30 6 (.slice A ds.length c) ds.length (ds.flatMap Bar.enc)] ∧ ds ++ barsF k (l.drop p) = barsF k l ∧ ds.length ≤ p ∧ p ≤ l.length) (μ := fun p => l.length - p) 0 ⟨sv, none, 0, [], Has.mk Off.refl (allLook_cons (by repeat (first | exact Look.here | apply Look.there (hne := rfl) | exact Look.const | apply Look.mix rfl | exact Look.arg0 | apply Look.args | exact Look.func)) (allLook_cons (by repeat (first | exact Look.here | apply Look.there (hne := rfl) | exact Look.const | apply Look.mix rfl | exact Look.arg0 | apply Look.args | exact Look.func)) allLook_nil)), hl, rfl, rfl, by simp, by omega⟩ ?_
    rintro p _ _ ⟨rv, A, c, ds, ⟨u, rfl⟩, hrv, rfl, hds, hdp, hp⟩; dsimp only [setL]
    refine JC.seq ?_
    refine JC.rs ?_
    refine Seq.p rfl Ev.move ?_
    refine Seq.p rfl (Ev.lenSl sl.sl_console_trade (hr := hrv.r)) ?_
    refine Seq.p rfl Ev.gt ?_
    refine Seq.nil ?_
    first | refine JC.c (ht := fun c16 => ?_) (hf := fun c16 => ?_) | refine JC.cb (ht := fun c16 => ?_) (hf := fun c16 => ?_)
    · -- then_t16
      have hlen : (l.drop p).length = l.length - p := List.length_drop ..
      have hrq : ∀ t ∈ l.drop p, t.qty < 18446744073709551616 := fun t ht => hq t (List.mem_of_mem_drop ht)
      have hdd : ∀ n, (l.drop p).drop n = l.drop (p + n) := fun n => by rw [List.drop_drop]
      obtain ⟨r, hr⟩ : ∃ r, r = l.drop p := ⟨_, rfl⟩
      rw [← hr] at hrv hds hlen hrq hdd c16 ⊢
      obtain ⟨n, hn⟩ : ∃ n, n = Min.min k r.length := ⟨_, rfl⟩
      have htk : r.take n = r.take k := by rw [hn]; exact List.take_eq_take_iff.2 (by omega)
      have hdk : r.drop k = r.drop n := by
        rw [hn]
        by_cases hc : k ≤ r.length
        · rw [Nat.min_eq_left hc]
        · rw [Nat.min_eq_right (by omega), List.drop_eq_nil_of_le (by omega), List.drop_eq_nil_of_le (by omega)]
      have hsub := hrv.sub (lo := 0) (hi := n) (by omega) (by omega)
      rw [List.drop_zero, Nat.sub_zero, htk] at hsub
      have hsub2 := hrv.sub (lo := n) (hi := r.length) (by omega) (by omega)
      rw [List.take_of_length_le (by rw [List.length_drop]; exact Nat.le_refl _), hdd] at hsub2
      rw [barsF_cons hk (by omega), hdk, hdd] at hds
      obtain ⟨b, hb⟩ : ∃ b, b = barF (r.take k) := ⟨_, rfl⟩
      refine JC.skip ?_
      refine JC.blk ?_
      refine JC.rs ?_
      refine Seq.p rfl Ev.move ?_
      refine Seq.p rfl Ev.move ?_
      refine Seq.p rfl (Ev.lenSl sl.sl_console_trade (hr := hrv.r)) ?_
      refine Seq.p rfl (Ev.as (v' := .int .i64 (n : Int)) (by rw [hn]) Ev.minN) ?_
      refine Seq.p rfl Ev.assign ?_
      refine Seq.nil ?_
      refine JC.rs ?_
      refine Seq.p rfl Ev.move ?_
      refine Seq.p rfl Ev.move ?_
      refine Seq.p rfl Ev.move ?_
      refine Seq.p rfl (Ev.cut sl.sl_console_trade (hr := hrv.r) (l := 0) (h := n) (hlo := rfl) (hhi := ⟨_, (by repeat (first | exact Look.here | apply Look.there (hne := rfl) | exact Look.const | apply Look.mix rfl | exact Look.arg0 | apply Look.args | exact Look.func))⟩)) ?_
      refine Seq.callP rfl (fun w hw => (hb ▸ consoleBar (l := r.take k) (hsub.up hw) (fun t ht => hrq t (List.mem_of_mem_take ht)))) ?_
      refine Seq.buildSlN [_, _, _, _, _, _] (hsl := sl.sl_api_Bar) (hz := z.api_Bar) (k := ?_); intro b26
      refine Seq.append (hsl := sl.sl_api_Bar) (he := el.api_Bar) (hsrc := (fun w' hw => Src.box (news := b.enc) sl.sl_api_Bar At.z hw rfl (fun q u hu => hu))) (k := ?_); intro A27 c27
      refine Seq.p rfl Ev.assign ?_
      refine Seq.nil ?_
      refine JC.reg ?_
      refine Seq.p rfl Ev.move ?_
      refine Seq.p rfl Ev.move ?_
      refine Seq.p rfl (Ev.cut sl.sl_console_trade (hr := hrv.r) (l := n) (h := r.length) (hlo := ⟨_, (by repeat (first | exact Look.here | apply Look.there (hne := rfl) | exact Look.const | apply Look.mix rfl | exact Look.arg0 | apply Look.args | exact Look.func))⟩) (hhi := rfl)) ?_
      refine Seq.p rfl Ev.assign ?_
      refine Seq.nil ?_
      refine ⟨p + n, _, Part.skip (Part.refl _), ⟨_, A27, c27, ds ++ [b], Has.mk (by repeat (first | refine Off.upd ?_ rfl | exact Off.mix | refine Off.mix2 ?_ rfl | exact Off.refl)) (allLook_cons (by rw [List.length_append]; exact (by repeat (first | exact Look.here | apply Look.there (hne := rfl) | exact Look.const | apply Look.mix rfl | exact Look.arg0 | apply Look.args | exact Look.func))) (allLook_cons (by repeat (first | exact Look.here | apply Look.there (hne := rfl) | exact Look.const | apply Look.mix rfl | exact Look.arg0 | apply Look.args | exact Look.func)) allLook_nil)), hsub2, ?_, ?_, ?_, ?_⟩, by omega⟩
      · simp
      · rw [← hds, hb]; simp
      · simp; omega
      · omega
    · -- else_t16
      have hlen : (l.drop p).length = l.length - p := List.length_drop ..
      obtain rfl : p = l.length := by omega
      rw [List.drop_length, barsF_nil, List.append_nil] at hds
      subst hds
      refine JC.exit ?_ -- 0
      refine JC.rs ?_
      refine Seq.p rfl Ev.move ?_
      refine Seq.p rfl Ev.assign ?_
      refine Seq.nil ?_
      refine JC.ret ?_
      show retQ _ _ _ _ _ _ _ _
      refine ret1 (hp := Part.refl _) (hpost := ?_)
      exact ⟨_, _, rfl, rfl⟩
end Go.Rx
/- The day's statistics: events added. -/
namespace Go.Rx
open Go Go.RowKit
set_option linter.unusedVariables false
set_option linter.unusedSimpArgs false
structure Event where
  seq : Int
  kind : Int
  id : Int
  other : Int
  target : Int
  member : Int
  side : Int
  type : Int
  price : Int
  qty : Int
  peak : Int
  reason : Int
  code : Int
deriving DecidableEq, Inhabited
def Event.enc (e : Event) : List Value := [.int .u64 e.seq, .int .i64 e.kind, .int .u64 e.id, .int .u64 e.other, .int .u64 e.target, .int .u32 e.member, .int .i64 e.side, .int .i64 e.type, .int .i64 e.price, .int .u64 e.qty, .int .u64 e.peak, .int .i64 e.reason, .int .i64 e.code]
theorem Event.eqL_enc (x y : Event) : eqL x.enc y.enc = decide (x = y) := by
  cases x; cases y
  simp [Event.enc, eqL, eqV, Bool.decide_and]
def Event.trd (e : Event) : Trd := ⟨e.price, e.qty.toNat⟩
def tradesF (l : List Event) : List Trd := (l.filter fun e => decide (e.kind = 3)).map Event.trd
theorem tradesF_len (l : List Event) : (tradesF l).length ≤ l.length := by
  rw [tradesF, List.length_map]
  exact List.length_filter_le ..
theorem tradesF_append (l m : List Event) : tradesF (l ++ m) = tradesF l ++ tradesF m := by
  rw [tradesF, List.filter_append, List.map_append]
  rfl
theorem tradesF_take {l : List Event} {i : Nat} (hi : i < l.length) : tradesF (l.take (i + 1)) = tradesF (l.take i) ++ if l[i]!.kind = 3 then [l[i]!.trd] else [] := by
  rw [List.take_succ_eq_append_getElem hi, tradesF_append, getElem!_pos l i hi]
  congr 1
  unfold tradesF
  by_cases h : l[i].kind = 3
  · rw [if_pos h, List.filter_cons_of_pos (by simpa using h)]; rfl
  · rw [if_neg h, List.filter_cons_of_neg (by simpa using h)]; rfl
def goodQ (l : List Event) : Prop := ∀ e ∈ l, 0 ≤ e.qty ∧ e.qty ≤ 18446744073709551615
theorem tradesF_q {l : List Event} (h : goodQ l) : ∀ t ∈ tradesF l, t.qty < 18446744073709551616 := by
  intro t ht
  obtain ⟨e, he, rfl⟩ := List.mem_map.1 ht
  have := h e ((List.mem_filter.1 he).1)
  show e.qty.toNat < _
  omega
def statsC (bs : Nat) (v : Value) : Chunk := .box bs 59 [v]
def trdC (v : Value) (l : List Trd) : Chunk := .own 62 2 v l.length (l.flatMap Trd.enc)
set_option maxHeartbeats 2000000 in
set_option maxRecDepth 100000 in
theorem statsAdd {w : World} {bs c : Nat} {A : Option Addr} {ev : Value} {l : List Trd} {es : List Event} (ho : Own w [statsC bs (.slice A l.length c), trdC (.slice A l.length c) l]) (he : RSl Event.enc 13 w [statsC bs (.slice A l.length c), trdC (.slice A l.length c) l] ev es) (hlim : (l.length + es.length) * 16 ≤ 140737488355328) (hq : goodQ es) :
    Spec Go.Proofs.Try.prog 7 #[.pointer (some ⟨bs, 0, none⟩), ev] w [statsC bs (.slice A l.length c), trdC (.slice A l.length c) l] (fun u F' => ∃ A' c', F' = [statsC bs (.slice A' (l ++ tradesF es).length c'), trdC (.slice A' (l ++ tradesF es).length c') (l ++ tradesF es)]) := by
  have hs := he.small
  unfold statsC trdC at ho he ⊢
  refine Spec.enter (fn := Go.Proofs.Try.f7) (n := 30) [.pointer (some ⟨bs, 0, none⟩), ev] Go.Proofs.Try.func7 (by kernel_rfl) rfl Go.Proofs.Try.ntmps7 Go.Proofs.Try.results7 rfl ho ?_
  refine JC.rs ?_
  refine Seq.p rfl Ev.move ?_
  refine Seq.p rfl (Ev.lenSl sl.sl_api_Event (hr := he.r)) ?_
  refine Seq.p rfl Ev.move ?_
  refine Seq.nil ?_
  refine JC.blk ?_
  refine JC.loop (α := Nat) (I := fun i e1 H1 => ∃ A c, Has [5, 8, 9, 10, 11, 12, 13, 14, 15, 16, 17, 18, 19, 20, 21, 22, 23, 24, 25, 26, 27, 28, 29] [(8, .int .i64 (i : Int))] _ e1 ∧ H1 = [.box bs 59 [.slice A (l ++ tradesF (es.take i)).length c], .own 62 2 (.slice A (l ++ tradesF (es.take i)).length c) (l ++ tradesF (es.take i)).length ((l ++ tradesF (es.take i)).flatMap Trd.enc)] ∧ i ≤ es.length) (μ := fun i => es.length - i) 0 ⟨A, c, Has.mk Off.refl (allLook_cons (by repeat (first | exact Look.here | apply Look.there (hne := rfl) | exact Look.const | apply Look.mix rfl | exact Look.arg0 | apply Look.args | exact Look.func)) allLook_nil), by rw [List.take_zero]; show _ = [Chunk.box _ _ [.slice _ (l ++ []).length _], .own _ _ (.slice _ (l ++ []).length _) (l ++ []).length ((l ++ []).flatMap _)]; rw [List.append_nil], by omega⟩ ?_
  rintro i _ _ ⟨A2, c2, ⟨u, rfl⟩, rfl, hi⟩; dsimp only [setL]
  refine JC.rs ?_
  refine Seq.p rfl Ev.lt ?_
  refine Seq.nil ?_
  refine JC.seq ?_
  first | refine JC.c (ht := fun c9 => ?_) (hf := fun c9 => ?_) | refine JC.cb (ht := fun c9 => ?_) (hf := fun c9 => ?_)
  · -- then_t9
    have hi2 : i < es.length := by omega
    have hM := tradesF_take hi2
    have hml := tradesF_len (es.take i)
    rw [List.length_take, Nat.min_eq_left hi] at hml
    have hqi : 0 ≤ es[i]!.qty := by rw [getElem!_pos es i hi2]; exact (hq _ (List.getElem_mem hi2)).1
    have hqn : ((es[i]!.qty.toNat : Nat) : Int) = es[i]!.qty := Int.toNat_of_nonneg hqi
    have hMM : l ++ tradesF (es.take (i + 1)) = (l ++ tradesF (es.take i)) ++ if es[i]!.kind = 3 then [es[i]!.trd] else [] := by rw [hM, List.append_assoc]
    have hMl : (l ++ tradesF (es.take i)).length ≤ l.length + i := by rw [List.length_append]; omega
    obtain ⟨M, hMe⟩ : ∃ M, M = l ++ tradesF (es.take i) := ⟨_, rfl⟩
    rw [← hMe] at hMM hMl ⊢
    refine JC.skip ?_
    refine JC.seq ?_
    refine JC.blk ?_
    refine JC.rs ?_
    refine Seq.p rfl (Ev.iaN sl.sl_api_Event (hr := he.r)) ?_
    refine Seq.p rfl (Ev.ldEA ag.api_Event (hr := he.r)) ?_
    refine Seq.alloc (cs := [_, _, _, _, _, _, _, _, _, _, _, _, _]) (hz := z.api_Event) (k := ?_); intro b5
    refine Seq.storeN [_, _, _, _, _, _, _, _, _, _, _, _, _] sz.api_Event (k := ?_)
    refine Seq.nil ?_
    refine JC.rs ?_
    refine Seq.p rfl (Ev.faB fd.api_Event_1) ?_
    refine Seq.p rfl (Ev.ldB sc.int) ?_
    refine Seq.p rfl Ev.eq ?_
    refine Seq.nil ?_
    first | refine JC.c (ht := fun c14 => ?_) (hf := fun c14 => ?_) | refine JC.cb (ht := fun c14 => ?_) (hf := fun c14 => ?_)
    · -- then_t14
      rw [if_pos c14] at hMM
      refine JC.anyP (H0 := [.box b5 45 es[i]!.enc]) mixed (by repeat (first | exact Part.refl _ | exact Part.nil _ | apply Part.here | apply Part.skip)) ?_
      refine Any.p 0 rfl (by kernel_rfl) (by kernel_rfl) (by kernel_rfl) rfl Ev.move ?_
      refine Any.p 1 rfl (by kernel_rfl) (by kernel_rfl) (by kernel_rfl) rfl Ev.move ?_
      refine Any.p 2 rfl (by kernel_rfl) (by kernel_rfl) (by kernel_rfl) rfl Ev.nilP ?_
      refine Any.p 3 rfl (by kernel_rfl) (by kernel_rfl) (by kernel_rfl) rfl (Ev.faB fd.console_Stats_0) ?_
      refine Any.p 5 rfl (by kernel_rfl) (by kernel_rfl) (by kernel_rfl) rfl (Ev.faB fd.api_Event_8) ?_
      refine Any.p 6 rfl (by kernel_rfl) (by kernel_rfl) (by kernel_rfl) rfl (Ev.ldB sc.int) ?_
      refine Any.p 7 rfl (by kernel_rfl) (by kernel_rfl) (by kernel_rfl) rfl (Ev.faB fd.api_Event_9) ?_
      refine Any.p 8 rfl (by kernel_rfl) (by kernel_rfl) (by kernel_rfl) rfl (Ev.ldB sc.uint64) ?_
      refine Any.p 9 rfl (by kernel_rfl) (by kernel_rfl) (by kernel_rfl) rfl (Ev.buildN [_, _] pl.console_trade z.console_trade) ?_
      refine Any.two 4 10 rfl rfl (by kernel_rfl) ?_ ?_
      · -- first 4
        refine Seq.p rfl (Ev.ldB sc.sl_console_trade) ?_
        refine Seq.nil ⟨(by repeat (first | exact Part.refl _ | exact Part.nil _ | apply Part.here | apply Part.skip)), ?_⟩
        refine Any.one 10 rfl (by kernel_rfl) ?_
        refine Seq.buildSlN [_, _] (hsl := sl.sl_console_trade) (hz := z.console_trade) (k := ?_); intro b25
        refine Seq.nil ⟨(by repeat (first | exact Part.refl _ | exact Part.nil _ | apply Part.here | apply Part.skip)), ?_⟩
        refine Any.one 11 rfl (by kernel_rfl) ?_
        refine Seq.append (hsl := sl.sl_console_trade) (he := el.console_trade) (hsrc := (fun w' hw => Src.box (news := [.int .i64 es[i]!.price, .int .u64 es[i]!.qty]) sl.sl_console_trade At.z hw rfl (fun q u hu => hu))) (k := ?_); intro A26 c26
        refine Seq.nil ⟨(by repeat (first | exact Part.refl _ | exact Part.nil _ | apply Part.here | apply Part.skip)), ?_⟩
        refine Any.p 12 rfl (by kernel_rfl) (by kernel_rfl) (by kernel_rfl) rfl Ev.nilP ?_
        refine Any.p 13 rfl (by kernel_rfl) (by kernel_rfl) (by kernel_rfl) rfl (Ev.faB fd.console_Stats_0) ?_
        refine Any.one 14 rfl (by kernel_rfl) ?_
        refine Seq.storeN [_] sz.sl_console_trade (k := ?_)
        refine Seq.nil ⟨(by repeat (first | exact Part.refl _ | exact Part.nil _ | apply Part.here | apply Part.skip)), ?_⟩
        refine Any.done (by kernel_rfl) ?_
        refine JC.reg ?_
        refine Seq.p rfl (by first | exact Ev.inc | exact Ev.add) ?_
        refine Seq.p rfl Ev.move ?_
        refine Seq.nil ?_
        by_cases hk3 : es[i]!.kind = 3
        · first | exact absurd hk3 c14 | (refine ⟨i + 1, _, Part.skip (Part.skip (Part.refl _)), ⟨A26, c26, Has.mk (by repeat (first | refine Off.upd ?_ rfl | exact Off.mix | refine Off.mix2 ?_ rfl | exact Off.refl)) (allLook_cons (by repeat (first | exact Look.here | apply Look.there (hne := rfl) | exact Look.const | apply Look.mix rfl | exact Look.arg0 | apply Look.args | exact Look.func)) allLook_nil), ?_, by omega⟩, by omega⟩; rw [hMM]; generalize es[i]! = e at hqi hqn ⊢; simp [Trd.enc, Event.trd]; omega)
        · first | exact absurd c14 hk3 | exact ⟨i + 1, _, Part.skip (Part.refl _), ⟨A2, c2, Has.mk (by repeat (first | refine Off.upd ?_ rfl | exact Off.mix | refine Off.mix2 ?_ rfl | exact Off.refl)) (allLook_cons (by repeat (first | exact Look.here | apply Look.there (hne := rfl) | exact Look.const | apply Look.mix rfl | exact Look.arg0 | apply Look.args | exact Look.func)) allLook_nil), by rw [hMM], by omega⟩, by omega⟩
      · -- first 10
        refine Seq.buildSlN [_, _] (hsl := sl.sl_console_trade) (hz := z.console_trade) (k := ?_); intro b25
        refine Seq.nil ⟨(by repeat (first | exact Part.refl _ | exact Part.nil _ | apply Part.here | apply Part.skip)), ?_⟩
        refine Any.one 4 rfl (by kernel_rfl) ?_
        refine Seq.p rfl (Ev.ldB sc.sl_console_trade) ?_
        refine Seq.nil ⟨(by repeat (first | exact Part.refl _ | exact Part.nil _ | apply Part.here | apply Part.skip)), ?_⟩
        refine Any.one 11 rfl (by kernel_rfl) ?_
        refine Seq.append (hsl := sl.sl_console_trade) (he := el.console_trade) (hsrc := (fun w' hw => Src.box (news := [.int .i64 es[i]!.price, .int .u64 es[i]!.qty]) sl.sl_console_trade At.z hw rfl (fun q u hu => hu))) (k := ?_); intro A26 c26
        refine Seq.nil ⟨(by repeat (first | exact Part.refl _ | exact Part.nil _ | apply Part.here | apply Part.skip)), ?_⟩
        refine Any.p 12 rfl (by kernel_rfl) (by kernel_rfl) (by kernel_rfl) rfl Ev.nilP ?_
        refine Any.p 13 rfl (by kernel_rfl) (by kernel_rfl) (by kernel_rfl) rfl (Ev.faB fd.console_Stats_0) ?_
        refine Any.one 14 rfl (by kernel_rfl) ?_
        refine Seq.storeN [_] sz.sl_console_trade (k := ?_)
        refine Seq.nil ⟨(by repeat (first | exact Part.refl _ | exact Part.nil _ | apply Part.here | apply Part.skip)), ?_⟩
        refine Any.done (by kernel_rfl) ?_
        refine JC.reg ?_
        refine Seq.p rfl (by first | exact Ev.inc | exact Ev.add) ?_
        refine Seq.p rfl Ev.move ?_
        refine Seq.nil ?_
        by_cases hk3 : es[i]!.kind = 3
        · first | exact absurd hk3 c14 | (refine ⟨i + 1, _, Part.skip (Part.skip (Part.refl _)), ⟨A26, c26, Has.mk (by repeat (first | refine Off.upd ?_ rfl | exact Off.mix | refine Off.mix2 ?_ rfl | exact Off.refl)) (allLook_cons (by repeat (first | exact Look.here | apply Look.there (hne := rfl) | exact Look.const | apply Look.mix rfl | exact Look.arg0 | apply Look.args | exact Look.func)) allLook_nil), ?_, by omega⟩, by omega⟩; rw [hMM]; generalize es[i]! = e at hqi hqn ⊢; simp [Trd.enc, Event.trd]; omega)
        · first | exact absurd c14 hk3 | exact ⟨i + 1, _, Part.skip (Part.refl _), ⟨A2, c2, Has.mk (by repeat (first | refine Off.upd ?_ rfl | exact Off.mix | refine Off.mix2 ?_ rfl | exact Off.refl)) (allLook_cons (by repeat (first | exact Look.here | apply Look.there (hne := rfl) | exact Look.const | apply Look.mix rfl | exact Look.arg0 | apply Look.args | exact Look.func)) allLook_nil), by rw [hMM], by omega⟩, by omega⟩
    · -- else_t14
      rw [if_neg c14, List.append_nil] at hMM
      refine JC.skip ?_
      refine JC.reg ?_
      refine Seq.p rfl (by first | exact Ev.inc | exact Ev.add) ?_
      refine Seq.p rfl Ev.move ?_
      refine Seq.nil ?_
      by_cases hk3 : es[i]!.kind = 3
      · first | exact absurd hk3 c14 | (refine ⟨i + 1, _, Part.skip (Part.skip (Part.refl _)), ⟨A26, c26, Has.mk (by repeat (first | refine Off.upd ?_ rfl | exact Off.mix | refine Off.mix2 ?_ rfl | exact Off.refl)) (allLook_cons (by repeat (first | exact Look.here | apply Look.there (hne := rfl) | exact Look.const | apply Look.mix rfl | exact Look.arg0 | apply Look.args | exact Look.func)) allLook_nil), ?_, by omega⟩, by omega⟩; rw [hMM]; generalize es[i]! = e at hqi hqn ⊢; simp [Trd.enc, Event.trd]; omega)
      · first | exact absurd c14 hk3 | exact ⟨i + 1, _, Part.skip (Part.refl _), ⟨A2, c2, Has.mk (by repeat (first | refine Off.upd ?_ rfl | exact Off.mix | refine Off.mix2 ?_ rfl | exact Off.refl)) (allLook_cons (by repeat (first | exact Look.here | apply Look.there (hne := rfl) | exact Look.const | apply Look.mix rfl | exact Look.arg0 | apply Look.args | exact Look.func)) allLook_nil), by rw [hMM], by omega⟩, by omega⟩
  · -- else_t9
    obtain rfl : i = es.length := by omega
    rw [List.take_length]
    refine JC.exit ?_ -- 0
    first | show retQ _ _ _ _ _ .normal _ _ | (simp only [thenQ, blockQ, ↓reduceIte]; show retQ _ _ _ _ _ .normal _ _)
    exact ⟨[], _, RVs.nil, Part.refl _, A2, c2, rfl⟩
    skip
end Go.Rx
/- Money: cents, products, sums, words; the day's turnover. -/
namespace Go.Rx
open Go Go.RowKit
set_option linter.unusedVariables false
set_option linter.unusedSimpArgs false
def mon (n : Nat) : List Value := [.int .u64 ((n / 18446744073709551616 : Nat) : Int), .int .u64 ((n % 18446744073709551616 : Nat) : Int), .bool false]
set_option maxHeartbeats 1000000 in
theorem numTimes {w : World} {p q : Nat} (hp : p < 4294967296) (hq : q < 18446744073709551616) : Spec Go.Proofs.Try.prog 30 #[.int .u32 (p : Int), .int .u64 (q : Int)] w [] (fun u _ => u = .agg (mon (p * q)).toArray) := by
  refine Spec.enter (fn := Go.Proofs.Try.f30) (n := 17) [.int .u32 (p : Int), .int .u64 (q : Int)] Go.Proofs.Try.func30 (by kernel_rfl) rfl Go.Proofs.Try.ntmps30 Go.Proofs.Try.results30 rfl (Own.nil _) ?_
  refine JC.rs ?_
  refine Seq.alloc (cs := [_, _, _]) (hz := z.num_Money) (k := ?_); intro b4
  refine Seq.nil ?_
  refine JC.rs ?_
  refine Seq.p rfl Ev.move ?_
  refine Seq.p rfl (Ev.convU64 it.uint32 it.uint64 (h := by omega)) ?_
  refine Seq.p rfl Ev.move ?_
  refine Seq.callP rfl (fun w hw => bitsMul (by omega) hq) ?_
  refine Seq.p rfl Ev.move ?_
  refine Seq.p rfl Ev.extract ?_
  refine Seq.p rfl Ev.extract ?_
  refine Seq.p rfl Ev.assign ?_
  refine Seq.p rfl Ev.assign ?_
  refine Seq.nil ?_
  refine JC.rs ?_
  refine Seq.p rfl Ev.move ?_
  refine Seq.p rfl Ev.move ?_
  refine Seq.p rfl (Ev.buildN [_, _, _] pl.num_Money z.num_Money) ?_
  refine Seq.storeN [_, _, _] sz.num_Money (k := ?_)
  refine Seq.nil ?_
  refine JC.ret ?_
  show retQ _ _ _ _ _ _ _ _
  refine retB1 ag.num_Money (hp := Part.nil _) (hpost := ?_)
  rfl
set_option maxHeartbeats 1000000 in
theorem numCents0 {w : World} : Spec Go.Proofs.Try.prog 28 #[.int .i64 0] w [] (fun u _ => u = .agg (mon 0).toArray) := by
  refine Spec.enter (fn := Go.Proofs.Try.f28) (n := 12) [.int .i64 0] Go.Proofs.Try.func28 (by kernel_rfl) rfl Go.Proofs.Try.ntmps28 Go.Proofs.Try.results28 rfl (Own.nil _) ?_
  refine JC.rs ?_
  refine Seq.alloc (cs := [_, _, _]) (hz := z.num_Money) (k := ?_); intro b2
  refine Seq.nil ?_
  refine JC.seq ?_
  refine JC.rs ?_
  refine Seq.p rfl Ev.move ?_
  refine Seq.p rfl Ev.lt ?_
  refine Seq.nil ?_
  first | refine JC.c (ht := fun c4 => ?_) (hf := fun c4 => ?_) | refine JC.cb (ht := fun c4 => ?_) (hf := fun c4 => ?_)
  · -- then_t4
    omega
  · -- else_t4
    refine JC.skip ?_
    refine JC.rs ?_
    refine Seq.p rfl Ev.move ?_
    refine Seq.p rfl (Ev.convU64W it.int64 it.uint64) ?_
    refine Seq.p rfl (Ev.buildN [_, _, _] pl.num_Money z.num_Money) ?_
    refine Seq.storeN [_, _, _] sz.num_Money (k := ?_)
    refine Seq.nil ?_
    refine JC.ret ?_
    show retQ _ _ _ _ _ _ _ _
    refine retB1 ag.num_Money (hp := Part.nil _) (hpost := ?_)
    rfl
set_option maxHeartbeats 1000000 in
theorem numMadeOk {w : World} {h l : Nat} (hh : h < 9223372036854775808) (hl : l < 18446744073709551616) : Spec Go.Proofs.Try.prog 45 #[.int .u64 (h : Int), .int .u64 (l : Int), .bool false] w [] (fun u _ => u = .tuple #[.agg (mon (h * 18446744073709551616 + l)).toArray, .int .i64 0]) := by
  refine Spec.enter (fn := Go.Proofs.Try.f45) (n := 21) [.int .u64 (h : Int), .int .u64 (l : Int), .bool false] Go.Proofs.Try.func45 (by kernel_rfl) rfl Go.Proofs.Try.ntmps45 Go.Proofs.Try.results45 rfl (Own.nil _) ?_
  refine JC.rs ?_
  refine Seq.alloc (cs := [_, _, _]) (hz := z.num_Money) (k := ?_); intro b6
  refine Seq.p rfl Ev.assign ?_
  refine Seq.nil ?_
  refine JC.seq ?_
  refine JC.rs ?_
  refine Seq.p rfl Ev.move ?_
  refine Seq.p rfl Ev.ge ?_
  refine Seq.nil ?_
  first | refine JC.c (ht := fun c9 => ?_) (hf := fun c9 => ?_) | refine JC.cb (ht := fun c9 => ?_) (hf := fun c9 => ?_)
  · -- then_t9
    omega
  · -- else_t9
    refine JC.skip ?_
    refine JC.rs ?_
    refine Seq.p rfl Ev.move ?_
    refine Seq.p rfl Ev.move ?_
    refine Seq.p rfl Ev.move ?_
    refine Seq.p rfl Ev.move ?_
    refine Seq.andG (D := [14, 15, 16, 17, 18, 19]) (d := 14) (t := 19) (k := 5) (hn := fun h14 => ?_) (hx := ?_)
    · repeat (first | refine Seq.gn rfl rfl rfl rfl ?_ | refine Seq.gu rfl rfl rfl ?_)
      refine Seq.p rfl Ev.pickF ?_
      exact Seq.nil ⟨rfl, (by repeat (first | with_reducible exact Off.refl | refine Off.upd ?_ rfl | exact Off.mix | refine Off.mix2 ?_ rfl)), Look.here⟩
    apply Exists.intro
    refine ⟨fun h14 => ?_, fun u19 => ?_⟩
    · try simp only [decide_eq_true_eq, decide_eq_false_iff_not, Bool.and_eq_true, Bool.or_eq_true, Bool.not_eq_true', Bool.not_eq_false', Bool.or_eq_false_iff, Bool.and_eq_false_imp] at h14
      refine Seq.gy rfl rfl rfl ?_
      refine Seq.p rfl Ev.move ?_
      refine Seq.gy rfl rfl rfl ?_
      refine Seq.p rfl Ev.move ?_
      refine Seq.gy rfl rfl rfl ?_
      refine Seq.p rfl Ev.orN ?_
      refine Seq.gy rfl rfl rfl ?_
      refine Seq.p rfl Ev.ne ?_
      refine Seq.p rfl Ev.pickT ?_
      exact Seq.nil ⟨rfl, (by repeat (first | with_reducible exact Off.refl | refine Off.upd ?_ rfl | exact Off.mix | refine Off.mix2 ?_ rfl)), Look.here⟩
    refine Seq.p rfl (Ev.buildN [_, _, _] pl.num_Money z.num_Money) ?_
    refine Seq.storeN [_, _, _] sz.num_Money (k := ?_)
    refine Seq.p rfl Ev.assign ?_
    refine Seq.nil ?_
    refine JC.ret ?_
    show retQ _ _ _ _ _ _ _ _
    refine retB2 ag.num_Money (hp := Part.nil _) (hpost := ?_)
    rw [mon]; simp; omega
set_option maxHeartbeats 1000000 in
theorem numMadeBad {w : World} {h l : Nat} (hh : 9223372036854775808 ≤ h ∧ h < 18446744073709551616) (hl : l < 18446744073709551616) : Spec Go.Proofs.Try.prog 45 #[.int .u64 (h : Int), .int .u64 (l : Int), .bool false] w [] (fun u _ => u = .tuple #[.agg (mon 0).toArray, .int .i64 10]) := by
  refine Spec.enter (fn := Go.Proofs.Try.f45) (n := 21) [.int .u64 (h : Int), .int .u64 (l : Int), .bool false] Go.Proofs.Try.func45 (by kernel_rfl) rfl Go.Proofs.Try.ntmps45 Go.Proofs.Try.results45 rfl (Own.nil _) ?_
  refine JC.rs ?_
  refine Seq.alloc (cs := [_, _, _]) (hz := z.num_Money) (k := ?_); intro b6
  refine Seq.p rfl Ev.assign ?_
  refine Seq.nil ?_
  refine JC.seq ?_
  refine JC.rs ?_
  refine Seq.p rfl Ev.move ?_
  refine Seq.p rfl Ev.ge ?_
  refine Seq.nil ?_
  first | refine JC.c (ht := fun c9 => ?_) (hf := fun c9 => ?_) | refine JC.cb (ht := fun c9 => ?_) (hf := fun c9 => ?_)
  · -- then_t9
    refine JC.rs ?_
    refine Seq.p rfl (Ev.buildN [_, _, _] pl.num_Money z.num_Money) ?_
    refine Seq.storeN [_, _, _] sz.num_Money (k := ?_)
    refine Seq.p rfl Ev.assign ?_
    refine Seq.nil ?_
    refine JC.ret ?_
    show retQ _ _ _ _ _ _ _ _
    refine retB2 ag.num_Money (hp := Part.nil _) (hpost := ?_)
    rfl
  · -- else_t9
    omega
set_option maxHeartbeats 1000000 in
set_option maxRecDepth 100000 in
theorem numAddOk {w : World} {a b : Nat} (ha : a < 170141183460469231731687303715884105728) (hb : b < 170141183460469231731687303715884105728) (hab : a + b < 170141183460469231731687303715884105728) : Spec Go.Proofs.Try.prog 29 #[.agg (mon a).toArray, .agg (mon b).toArray] w [] (fun u _ => u = .tuple #[.agg (mon (a + b)).toArray, .int .i64 0]) := by
  have h1 : (a / 18446744073709551616 + b / 18446744073709551616 + (a % 18446744073709551616 + b % 18446744073709551616 + 0) / 18446744073709551616) % 18446744073709551616 = (a + b) / 18446744073709551616 := by omega
  have h2 : (a % 18446744073709551616 + b % 18446744073709551616 + 0) % 18446744073709551616 = (a + b) % 18446744073709551616 := by omega
  refine Spec.enter (fn := Go.Proofs.Try.f29) (n := 72) [.agg (mon a).toArray, .agg (mon b).toArray] Go.Proofs.Try.func29 (by kernel_rfl) rfl Go.Proofs.Try.ntmps29 Go.Proofs.Try.results29 rfl (Own.nil _) ?_
  refine JC.rs ?_
  refine Seq.box (cs := [_, _, _]) (k := ?_); intro b2
  refine Seq.box (cs := [_, _, _]) (k := ?_); intro b3
  refine Seq.alloc (cs := [_, _, _]) (hz := z.num_Money) (k := ?_); intro b4
  refine Seq.p rfl Ev.assign ?_
  refine Seq.nil ?_
  refine JC.seq ?_
  refine JC.rs ?_
  refine Seq.p rfl (Ev.faB fd.num_Money_2) ?_
  refine Seq.p rfl (Ev.ldB sc.bool) ?_
  refine Seq.p rfl (Ev.faB fd.num_Money_2) ?_
  refine Seq.p rfl (Ev.ldB sc.bool) ?_
  refine Seq.p rfl (Ev.eqB bl.bool) ?_
  refine Seq.nil ?_
  first | refine JC.c (ht := fun c18 => ?_) (hf := fun c18 => ?_) | refine JC.cb (ht := fun c18 => ?_) (hf := fun c18 => ?_)
  · -- then_t18
    refine JC.rs ?_
    refine Seq.p rfl (Ev.faB fd.num_Money_1) ?_
    refine Seq.p rfl (Ev.ldB sc.uint64) ?_
    refine Seq.p rfl (Ev.faB fd.num_Money_1) ?_
    refine Seq.p rfl (Ev.ldB sc.uint64) ?_
    refine Seq.p rfl (Ev.add64 Go.Proofs.Try.func43 (by kernel_rfl) (by kernel_rfl) (by kernel_rfl) (by kernel_rfl) (c := 0)) ?_
    refine Seq.p rfl Ev.move ?_
    refine Seq.p rfl Ev.extract ?_
    refine Seq.p rfl Ev.extract ?_
    refine Seq.p rfl Ev.assign ?_
    refine Seq.p rfl Ev.assign ?_
    refine Seq.nil ?_
    refine JC.rs ?_
    refine Seq.p rfl (Ev.faB fd.num_Money_0) ?_
    refine Seq.p rfl (Ev.ldB sc.uint64) ?_
    refine Seq.p rfl (Ev.faB fd.num_Money_0) ?_
    refine Seq.p rfl (Ev.ldB sc.uint64) ?_
    refine Seq.p rfl Ev.move ?_
    refine Seq.p rfl (Ev.add64 Go.Proofs.Try.func43 (by kernel_rfl) (by kernel_rfl) (by kernel_rfl) (by kernel_rfl)) ?_
    refine Seq.p rfl Ev.move ?_
    refine Seq.p rfl Ev.extract ?_
    refine Seq.p rfl Ev.extract ?_
    refine Seq.p rfl Ev.assign ?_
    refine Seq.p rfl Ev.assign ?_
    refine Seq.nil ?_
    refine JC.rs ?_
    refine Seq.p rfl Ev.move ?_
    refine Seq.p rfl Ev.move ?_
    refine Seq.p rfl (Ev.faB fd.num_Money_2) ?_
    refine Seq.p rfl (Ev.ldB sc.bool) ?_
    refine Seq.callP rfl (fun w hw => numMadeOk (by omega) (by omega)) ?_
    refine Seq.p rfl Ev.extract ?_
    refine Seq.p rfl Ev.extract ?_
    refine Seq.storeN [_, _, _] sz.num_Money (k := ?_)
    refine Seq.p rfl Ev.assign ?_
    refine Seq.nil ?_
    refine JC.ret ?_
    show retQ _ _ _ _ _ _ _ _
    refine retB2 ag.num_Money (hp := Part.nil _) (hpost := ?_)
    have h3 : (a + b) / 18446744073709551616 * 18446744073709551616 + (a + b) % 18446744073709551616 = a + b := by omega
    rw [h1, h2, h3]
    rfl
  · -- else_t18
    simp at c18
set_option maxHeartbeats 1000000 in
set_option maxRecDepth 100000 in
theorem numAddBad {w : World} {a b : Nat} (ha : a < 170141183460469231731687303715884105728) (hb : b < 170141183460469231731687303715884105728) (hab : 170141183460469231731687303715884105728 ≤ a + b) : Spec Go.Proofs.Try.prog 29 #[.agg (mon a).toArray, .agg (mon b).toArray] w [] (fun u _ => u = .tuple #[.agg (mon 0).toArray, .int .i64 10]) := by
  have h1 : (a / 18446744073709551616 + b / 18446744073709551616 + (a % 18446744073709551616 + b % 18446744073709551616 + 0) / 18446744073709551616) % 18446744073709551616 = (a + b) / 18446744073709551616 := by omega
  have h2 : (a % 18446744073709551616 + b % 18446744073709551616 + 0) % 18446744073709551616 = (a + b) % 18446744073709551616 := by omega
  refine Spec.enter (fn := Go.Proofs.Try.f29) (n := 72) [.agg (mon a).toArray, .agg (mon b).toArray] Go.Proofs.Try.func29 (by kernel_rfl) rfl Go.Proofs.Try.ntmps29 Go.Proofs.Try.results29 rfl (Own.nil _) ?_
  refine JC.rs ?_
  refine Seq.box (cs := [_, _, _]) (k := ?_); intro b2
  refine Seq.box (cs := [_, _, _]) (k := ?_); intro b3
  refine Seq.alloc (cs := [_, _, _]) (hz := z.num_Money) (k := ?_); intro b4
  refine Seq.p rfl Ev.assign ?_
  refine Seq.nil ?_
  refine JC.seq ?_
  refine JC.rs ?_
  refine Seq.p rfl (Ev.faB fd.num_Money_2) ?_
  refine Seq.p rfl (Ev.ldB sc.bool) ?_
  refine Seq.p rfl (Ev.faB fd.num_Money_2) ?_
  refine Seq.p rfl (Ev.ldB sc.bool) ?_
  refine Seq.p rfl (Ev.eqB bl.bool) ?_
  refine Seq.nil ?_
  first | refine JC.c (ht := fun c18 => ?_) (hf := fun c18 => ?_) | refine JC.cb (ht := fun c18 => ?_) (hf := fun c18 => ?_)
  · -- then_t18
    refine JC.rs ?_
    refine Seq.p rfl (Ev.faB fd.num_Money_1) ?_
    refine Seq.p rfl (Ev.ldB sc.uint64) ?_
    refine Seq.p rfl (Ev.faB fd.num_Money_1) ?_
    refine Seq.p rfl (Ev.ldB sc.uint64) ?_
    refine Seq.p rfl (Ev.add64 Go.Proofs.Try.func43 (by kernel_rfl) (by kernel_rfl) (by kernel_rfl) (by kernel_rfl) (c := 0)) ?_
    refine Seq.p rfl Ev.move ?_
    refine Seq.p rfl Ev.extract ?_
    refine Seq.p rfl Ev.extract ?_
    refine Seq.p rfl Ev.assign ?_
    refine Seq.p rfl Ev.assign ?_
    refine Seq.nil ?_
    refine JC.rs ?_
    refine Seq.p rfl (Ev.faB fd.num_Money_0) ?_
    refine Seq.p rfl (Ev.ldB sc.uint64) ?_
    refine Seq.p rfl (Ev.faB fd.num_Money_0) ?_
    refine Seq.p rfl (Ev.ldB sc.uint64) ?_
    refine Seq.p rfl Ev.move ?_
    refine Seq.p rfl (Ev.add64 Go.Proofs.Try.func43 (by kernel_rfl) (by kernel_rfl) (by kernel_rfl) (by kernel_rfl)) ?_
    refine Seq.p rfl Ev.move ?_
    refine Seq.p rfl Ev.extract ?_
    refine Seq.p rfl Ev.extract ?_
    refine Seq.p rfl Ev.assign ?_
    refine Seq.p rfl Ev.assign ?_
    refine Seq.nil ?_
    refine JC.rs ?_
    refine Seq.p rfl Ev.move ?_
    refine Seq.p rfl Ev.move ?_
    refine Seq.p rfl (Ev.faB fd.num_Money_2) ?_
    refine Seq.p rfl (Ev.ldB sc.bool) ?_
    refine Seq.callP rfl (fun w hw => numMadeBad (by omega) (by omega)) ?_
    refine Seq.p rfl Ev.extract ?_
    refine Seq.p rfl Ev.extract ?_
    refine Seq.storeN [_, _, _] sz.num_Money (k := ?_)
    refine Seq.p rfl Ev.assign ?_
    refine Seq.nil ?_
    refine JC.ret ?_
    show retQ _ _ _ _ _ _ _ _
    refine retB2 ag.num_Money (hp := Part.nil _) (hpost := ?_)
    rfl
  · -- else_t18
    simp at c18
end Go.Rx
/- The day's turnover. -/
namespace Go.Rx
open Go Go.RowKit
set_option linter.unusedVariables false
set_option linter.unusedSimpArgs false
def addM (a b : Nat) : Nat := if a + b < 170141183460469231731687303715884105728 then a + b else 0
def addE (a b : Nat) : Int := if a + b < 170141183460469231731687303715884105728 then 0 else 10
theorem numAdd {w : World} {a b : Nat} (ha : a < 170141183460469231731687303715884105728) (hb : b < 170141183460469231731687303715884105728) : Spec Go.Proofs.Try.prog 29 #[.agg (mon a).toArray, .agg (mon b).toArray] w [] (fun u _ => u = .tuple #[.agg (mon (addM a b)).toArray, .int .i64 (addE a b)]) := by
  by_cases h : a + b < 170141183460469231731687303715884105728
  · rw [addM, addE, if_pos h, if_pos h]
    exact numAddOk ha hb h
  · rw [addM, addE, if_neg h, if_neg h]
    exact numAddBad ha hb (by omega)
def turnStep (m : Nat) (t : Trd) : Nat := if m + worthF t.price * t.qty < 170141183460469231731687303715884105728 then m + worthF t.price * t.qty else m
def turnF (l : List Trd) : Nat := l.foldl turnStep 0
theorem turnF_lt (l : List Trd) : turnF l < 170141183460469231731687303715884105728 := by
  suffices h : ∀ (l : List Trd) (m : Nat), m < 170141183460469231731687303715884105728 → l.foldl turnStep m < 170141183460469231731687303715884105728 from h l 0 (by decide)
  intro l
  induction l with
  | nil => intro m h; exact h
  | cons t l ih =>
    intro m h
    refine ih _ ?_
    unfold turnStep
    split <;> assumption
theorem turnF_take {l : List Trd} {i : Nat} (hi : i < l.length) : turnF (l.take (i + 1)) = turnStep (turnF (l.take i)) l[i]! := by
  rw [List.take_succ_eq_append_getElem hi, turnF, List.foldl_append, getElem!_pos l i hi]
  rfl
theorem worth_prod {t : Trd} (h : t.qty < 18446744073709551616) : worthF t.price * t.qty ≤ 4835703278458516698824704 :=
  Nat.le_trans (Nat.mul_le_mul (Nat.le_of_lt (worthF_lt t.price)) (show t.qty ≤ 18446744073709551616 by omega)) (by decide)
set_option maxHeartbeats 2000000 in
set_option maxRecDepth 100000 in
theorem statsTurnover {w : World} {bs : Nat} {sv : Value} {l : List Trd} (hc : Cell w [] ⟨bs, 0, none⟩ sv) (hl : RSl Trd.enc 2 w [] sv l) (hq : ∀ t ∈ l, t.qty < 18446744073709551616) : Spec Go.Proofs.Try.prog 11 #[.pointer (some ⟨bs, 0, none⟩)] w [] (fun u _ => u = .agg (mon (turnF l)).toArray) := by
  have hs := hl.small
  refine Spec.enter (fn := Go.Proofs.Try.f11) (n := 33) [.pointer (some ⟨bs, 0, none⟩)] Go.Proofs.Try.func11 (by kernel_rfl) rfl Go.Proofs.Try.ntmps11 Go.Proofs.Try.results11 rfl (Own.nil _) ?_
  refine JC.rs ?_
  refine Seq.alloc (cs := [_, _, _]) (hz := z.num_Money) (k := ?_); intro b2
  refine Seq.nil ?_
  refine JC.rs ?_
  refine Seq.callP rfl (fun w hw => numCents0) ?_
  refine Seq.alloc (cs := [_, _, _]) (hz := z.num_Money) (k := ?_); intro b3
  refine Seq.storeTo (cs' := mon 0) sz.num_Money (hH := At.z) (hfit := Nat.le_of_ble_eq_true rfl) (hcs := rfl) (k := ?_)
  refine Seq.nil ?_
  refine JC.seq ?_
  refine JC.rs ?_
  refine Seq.p rfl Ev.move ?_
  refine Seq.p rfl Ev.nilP ?_
  refine Seq.p rfl (Ev.fa fd.console_Stats_0) ?_
  refine Seq.p rfl (Ev.ldS sc.sl_console_trade (Cells.cell hc)) ?_
  refine Seq.p rfl (Ev.lenSl sl.sl_console_trade (hr := hl.r)) ?_
  refine Seq.p rfl Ev.move ?_
  refine Seq.nil ?_
  refine JC.blk ?_
  refine JC.loop (α := Nat) (I := fun i e1 H1 => Has [5, 6, 7, 14, 15, 16, 17, 18, 19, 20, 21, 22, 23, 24, 25, 26, 27, 28, 29, 30, 31] [(14, .int .i64 (i : Int))] _ e1 ∧ H1 = [.box b3 37 (mon (turnF (l.take i))), _] ∧ i ≤ l.length) (μ := fun i => l.length - i) 0 ⟨Has.mk Off.refl (allLook_cons (by repeat (first | exact Look.here | apply Look.there (hne := rfl) | exact Look.const | apply Look.mix rfl | exact Look.arg0 | apply Look.args | exact Look.func)) allLook_nil), rfl, by omega⟩ ?_
  rintro i _ _ ⟨⟨u, rfl⟩, rfl, hi⟩; dsimp only [setL]
  refine JC.rs ?_
  refine Seq.p rfl Ev.lt ?_
  refine Seq.nil ?_
  refine JC.seq ?_
  first | refine JC.c (ht := fun c15 => ?_) (hf := fun c15 => ?_) | refine JC.cb (ht := fun c15 => ?_) (hf := fun c15 => ?_)
  · -- then_t15
    have hi2 : i < l.length := by omega
    have hT := turnF_take hi2
    have hm := turnF_lt (l.take i)
    have htq : l[i]!.qty < 18446744073709551616 := by rw [getElem!_pos l i hi2]; exact hq _ (List.getElem_mem hi2)
    have hwp := worth_prod htq
    have hwl := worthF_lt l[i]!.price
    obtain ⟨m, hme⟩ : ∃ m, m = turnF (l.take i) := ⟨_, rfl⟩
    rw [← hme] at hT hm ⊢
    refine JC.skip ?_
    refine JC.seq ?_
    refine JC.blk ?_
    refine JC.rs ?_
    refine Seq.p rfl (Ev.iaN sl.sl_console_trade (hr := hl.r)) ?_
    refine Seq.p rfl (Ev.ldEA ag.console_trade (hr := hl.r)) ?_
    refine Seq.alloc (cs := [_, _]) (hz := z.console_trade) (k := ?_); intro b5
    refine Seq.storeN [_, _] sz.console_trade (k := ?_)
    refine Seq.nil ?_
    refine JC.as mixed ?_
    refine Any.p 0 rfl (by kernel_rfl) (by kernel_rfl) (by kernel_rfl) rfl (Ev.ldBA (cs := mon m) ag.num_Money) ?_
    refine Any.p 1 rfl (by kernel_rfl) (by kernel_rfl) (by kernel_rfl) rfl (Ev.ldBA (cs := l[i]!.enc) ag.console_trade) ?_
    refine Any.call 2 rfl (by kernel_rfl) (by kernel_rfl) (by kernel_rfl) rfl (fun w hw => tradeWorth (t := l[i]!)) ?_
    refine Any.p 3 rfl (by kernel_rfl) (by kernel_rfl) (by kernel_rfl) rfl (Ev.faB fd.console_trade_1) ?_
    refine Any.p 4 rfl (by kernel_rfl) (by kernel_rfl) (by kernel_rfl) rfl (Ev.ldB sc.uint64) ?_
    refine Any.call 5 rfl (by kernel_rfl) (by kernel_rfl) (by kernel_rfl) rfl (fun w hw => numTimes (p := worthF l[i]!.price) (q := l[i]!.qty) (by omega) htq) ?_
    refine Any.call 6 rfl (by kernel_rfl) (by kernel_rfl) (by kernel_rfl) rfl (fun w hw => numAdd (a := m) (b := worthF l[i]!.price * l[i]!.qty) hm (by omega)) ?_
    refine Any.p 7 rfl (by kernel_rfl) (by kernel_rfl) (by kernel_rfl) rfl Ev.move ?_
    refine Any.p 8 rfl (by kernel_rfl) (by kernel_rfl) (by kernel_rfl) rfl Ev.extract ?_
    refine Any.p 9 rfl (by kernel_rfl) (by kernel_rfl) (by kernel_rfl) rfl Ev.extract ?_
    refine Any.one 10 rfl (by kernel_rfl) ?_
    refine Seq.alloc (cs := [_, _, _]) (hz := z.num_Money) (k := ?_); intro b6
    refine Seq.nil ⟨(by repeat (first | exact Part.refl _ | exact Part.nil _ | apply Part.here | apply Part.skip)), ?_⟩
    refine Any.one 11 rfl (by kernel_rfl) ?_
    refine Seq.storeN [_, _, _] sz.num_Money (k := ?_)
    refine Seq.nil ⟨(by repeat (first | exact Part.refl _ | exact Part.nil _ | apply Part.here | apply Part.skip)), ?_⟩
    refine Any.p 12 rfl (by kernel_rfl) (by kernel_rfl) (by kernel_rfl) rfl Ev.assign ?_
    refine Any.done (by kernel_rfl) ?_
    refine JC.rs ?_
    refine Seq.p rfl Ev.move ?_
    refine Seq.p rfl Ev.eq ?_
    refine Seq.nil ?_
    first | refine JC.c (ht := fun c29 => ?_) (hf := fun c29 => ?_) | refine JC.cb (ht := fun c29 => ?_) (hf := fun c29 => ?_)
    · -- then_t29
      have ha : m + worthF l[i]!.price * l[i]!.qty < 170141183460469231731687303715884105728 := by unfold addE at c29; split at c29 <;> first | assumption | omega
      have hA : addM m (worthF l[i]!.price * l[i]!.qty) = turnF (l.take (i + 1)) := by rw [hT, turnStep, addM, if_pos ha, if_pos ha]
      rw [hA]
      refine JC.reg ?_
      refine Seq.p rfl (Ev.ldBA ag.num_Money) ?_
      refine Seq.storeN [_, _, _] sz.num_Money (k := ?_)
      refine Seq.nil ?_
      refine JC.reg ?_
      refine Seq.p rfl (by first | exact Ev.inc | exact Ev.add) ?_
      refine Seq.p rfl Ev.move ?_
      refine Seq.nil ?_
      exact ⟨i + 1, _, Part.skip (Part.skip (Part.refl _)), ⟨Has.mk (by repeat (first | refine Off.upd ?_ rfl | exact Off.mix | refine Off.mix2 ?_ rfl | exact Off.refl)) (allLook_cons (by repeat (first | exact Look.here | apply Look.there (hne := rfl) | exact Look.const | apply Look.mix rfl | exact Look.arg0 | apply Look.args | exact Look.func)) allLook_nil), rfl, by omega⟩, by omega⟩
    · -- else_t29
      have ha : ¬ m + worthF l[i]!.price * l[i]!.qty < 170141183460469231731687303715884105728 := by intro h; apply c29; rw [addE, if_pos h]
      have hA : m = turnF (l.take (i + 1)) := by rw [hT, turnStep, if_neg ha]
      rw [hA]
      refine JC.skip ?_
      refine JC.reg ?_
      refine Seq.p rfl (by first | exact Ev.inc | exact Ev.add) ?_
      refine Seq.p rfl Ev.move ?_
      refine Seq.nil ?_
      exact ⟨i + 1, _, Part.skip (Part.skip (Part.refl _)), ⟨Has.mk (by repeat (first | refine Off.upd ?_ rfl | exact Off.mix | refine Off.mix2 ?_ rfl | exact Off.refl)) (allLook_cons (by repeat (first | exact Look.here | apply Look.there (hne := rfl) | exact Look.const | apply Look.mix rfl | exact Look.arg0 | apply Look.args | exact Look.func)) allLook_nil), rfl, by omega⟩, by omega⟩
  · -- else_t15
    obtain rfl : i = l.length := by omega
    rw [List.take_length]
    refine JC.exit ?_ -- 0
    refine JC.rs ?_
    refine Seq.p rfl (Ev.ldBA ag.num_Money) ?_
    refine Seq.storeN [_, _, _] sz.num_Money (k := ?_)
    refine Seq.nil ?_
    refine JC.ret ?_
    show retQ _ _ _ _ _ _ _ _
    refine retB1 ag.num_Money (hp := Part.nil _) (hpost := ?_)
    rfl
end Go.Rx
/- The day's mean. -/
namespace Go.Rx
open Go Go.RowKit
set_option linter.unusedVariables false
set_option linter.unusedSimpArgs false
def sumW (l : List Trd) : Nat := l.foldl (fun n t => n + worthF t.price * t.qty) 0
def sumQ (l : List Trd) : Nat := l.foldl (fun n t => n + t.qty) 0
theorem sumW_take {l : List Trd} {i : Nat} (hi : i < l.length) : sumW (l.take (i + 1)) = sumW (l.take i) + worthF l[i]!.price * l[i]!.qty := by
  rw [List.take_succ_eq_append_getElem hi, sumW, List.foldl_append, getElem!_pos l i hi]
  rfl
theorem sumQ_take {l : List Trd} {i : Nat} (hi : i < l.length) : sumQ (l.take (i + 1)) = sumQ (l.take i) + l[i]!.qty := by
  rw [List.take_succ_eq_append_getElem hi, sumQ, List.foldl_append, getElem!_pos l i hi]
  rfl
theorem sums_le {l : List Trd} (hq : ∀ t ∈ l, t.qty < 18446744073709551616) : ∀ i, i ≤ l.length → sumW (l.take i) ≤ i * 4835703278458516698824704 ∧ sumQ (l.take i) ≤ i * 18446744073709551616
  | 0, _ => by rw [List.take_zero]; exact ⟨Nat.zero_le _, Nat.zero_le _⟩
  | i + 1, h => by
    have ih := sums_le hq i (by omega)
    have htq : l[i]!.qty < 18446744073709551616 := by rw [getElem!_pos l i (by omega)]; exact hq _ (List.getElem_mem _)
    have hp := worth_prod htq
    rw [sumW_take (by omega), sumQ_take (by omega), Nat.add_mul, Nat.add_mul]
    omega
theorem sums_lt {l : List Trd} (hq : ∀ t ∈ l, t.qty < 18446744073709551616) (hs : l.length ≤ 4611686018427387904) : sumW l < 62771017353866807638357894232076664161023554444640345 ∧ sumQ l < 3138550867693340381917894711603833208051177722232017256448 := by
  have h := sums_le hq l.length (Nat.le_refl _)
  rw [List.take_length] at h
  have h1 : l.length * 4835703278458516698824704 ≤ 4611686018427387904 * 4835703278458516698824704 := Nat.mul_le_mul hs (Nat.le_refl _)
  omega
theorem w3_zero {n : Nat} (hn : n < 6277101735386680763835789423207666416102355444464034512896) : eqL (w3 n) (w3 0) = decide (n = 0) := by
  rw [Bool.eq_iff_iff]
  simp [w3, u3, d3, eqL, eqV]
  omega
def roundF (s q : Nat) : Nat := if q < s % q * 2 ∨ s % q * 2 = q ∧ s / q % 2 = 1 then s / q + 1 else s / q
theorem round_c {s q : Nat} : (decide (0 < cmpF (s % q * 2) q) || decide (cmpF (s % q * 2) q = 0) && decide (((s / q % 18446744073709551616 % 2 : Nat) : Int) = 1)) = decide (q < s % q * 2 ∨ s % q * 2 = q ∧ s / q % 2 = 1) := by
  obtain ⟨r, hr⟩ : ∃ r, r = s % q * 2 := ⟨_, rfl⟩
  obtain ⟨d, hd⟩ : ∃ r, r = s / q := ⟨_, rfl⟩
  rw [← hr, ← hd, Bool.eq_iff_iff]
  unfold cmpF
  simp only [Bool.or_eq_true, Bool.and_eq_true, decide_eq_true_eq]
  split
  · omega
  · split <;> omega
theorem roundF_lt {s q : Nat} (hs : s < 6277101735386680763835789423207666416102355444464034512895) : roundF s q < 6277101735386680763835789423207666416102355444464034512896 := by
  have h := Nat.div_le_self s q
  unfold roundF
  split <;> omega
theorem high_zero {x : Nat} (hx : x < 6277101735386680763835789423207666416102355444464034512896) : (x / 18446744073709551616 % 18446744073709551616 ||| x / 340282366920938463463374607431768211456 % 18446744073709551616) = 0 ↔ x < 18446744073709551616 := by
  rw [Nat.or_eq_zero_iff]
  omega
def meanF (l : List Trd) : Nat × Bool := if sumQ l = 0 then (0, false) else if roundF (sumW l * 100) (sumQ l) < 18446744073709551616 then (roundF (sumW l * 100) (sumQ l), true) else (0, false)
set_option maxHeartbeats 4000000 in
set_option maxRecDepth 100000 in
theorem statsMean {w : World} {bs : Nat} {sv : Value} {l : List Trd} (hc : Cell w [] ⟨bs, 0, none⟩ sv) (hl : RSl Trd.enc 2 w [] sv l) (hq : ∀ t ∈ l, t.qty < 18446744073709551616) : Spec Go.Proofs.Try.prog 9 #[.pointer (some ⟨bs, 0, none⟩)] w [] (fun u _ => u = .tuple #[.int .u64 ((meanF l).1 : Int), .bool (meanF l).2]) := by
  have hs := hl.small
  obtain ⟨hb1, hb2⟩ := sums_lt hq hs
  refine Spec.enter (fn := Go.Proofs.Try.f9) (n := 76) [.pointer (some ⟨bs, 0, none⟩)] Go.Proofs.Try.func9 (by kernel_rfl) rfl Go.Proofs.Try.ntmps9 Go.Proofs.Try.results9 rfl (Own.nil _) ?_
  refine JC.rs ?_
  refine Seq.p rfl Ev.assign ?_
  refine Seq.p rfl Ev.assign ?_
  refine Seq.nil ?_
  refine JC.rs ?_
  refine Seq.alloc (cs := [_, _, _]) (hz := z.console_three) (k := ?_); intro b4
  refine Seq.alloc (cs := [_, _, _]) (hz := z.console_three) (k := ?_); intro b5
  refine Seq.nil ?_
  refine JC.seq ?_
  refine JC.rs ?_
  refine Seq.p rfl Ev.move ?_
  refine Seq.p rfl Ev.nilP ?_
  refine Seq.p rfl (Ev.fa fd.console_Stats_0) ?_
  refine Seq.p rfl (Ev.ldS sc.sl_console_trade (Cells.cell hc)) ?_
  refine Seq.p rfl (Ev.lenSl sl.sl_console_trade (hr := hl.r)) ?_
  refine Seq.p rfl Ev.move ?_
  refine Seq.nil ?_
  refine JC.blk ?_
  refine JC.loop (α := Nat) (I := fun i e1 H1 => Has [7, 8, 9, 18, 19, 20, 21, 22, 23, 24, 25, 26, 27, 28, 29, 30, 31, 32, 33, 34, 35, 36, 37, 38, 39] [(18, .int .i64 (i : Int))] _ e1 ∧ H1 = [.box b5 64 (w3 (sumQ (l.take i))), .box b4 64 (w3 (sumW (l.take i)))] ∧ i ≤ l.length) (μ := fun i => l.length - i) 0 ⟨Has.mk Off.refl (allLook_cons (by repeat (first | exact Look.here | apply Look.there (hne := rfl) | exact Look.const | apply Look.mix rfl | exact Look.arg0 | apply Look.args | exact Look.func)) allLook_nil), by rw [List.take_zero]; rfl, by omega⟩ ?_
  rintro i _ _ ⟨⟨u, rfl⟩, rfl, hi⟩; dsimp only [setL]
  refine JC.rs ?_
  refine Seq.p rfl Ev.lt ?_
  refine Seq.nil ?_
  refine JC.seq ?_
  first | refine JC.c (ht := fun c19 => ?_) (hf := fun c19 => ?_) | refine JC.cb (ht := fun c19 => ?_) (hf := fun c19 => ?_)
  · -- then_t19
    have hi2 : i < l.length := by omega
    have hW := sumW_take hi2
    have hQ := sumQ_take hi2
    have htq : l[i]!.qty < 18446744073709551616 := by rw [getElem!_pos l i hi2]; exact hq _ (List.getElem_mem hi2)
    have hwl := worthF_lt l[i]!.price
    have hwp := worth_prod htq
    obtain ⟨S, hS⟩ : ∃ m, m = sumW (l.take i) := ⟨_, rfl⟩
    obtain ⟨Q, hQe⟩ : ∃ m, m = sumQ (l.take i) := ⟨_, rfl⟩
    rw [← hS] at hW ⊢
    rw [← hQe] at hQ ⊢
    refine JC.skip ?_
    refine JC.seq ?_
    refine JC.blk ?_
    refine JC.rs ?_
    refine Seq.p rfl (Ev.iaN sl.sl_console_trade (hr := hl.r)) ?_
    refine Seq.p rfl (Ev.ldEA ag.console_trade (hr := hl.r)) ?_
    refine Seq.alloc (cs := [_, _]) (hz := z.console_trade) (k := ?_); intro b7
    refine Seq.storeN [_, _] sz.console_trade (k := ?_)
    refine Seq.nil ?_
    refine JC.qs mixed (by kernel_rfl) ?_
    refine Qui.p rfl (Ev.ldBA (cs := l[i]!.enc) ag.console_trade) ?_
    refine Qui.call rfl (fun w hw => tradeWorth (t := l[i]!)) ?_
    refine Qui.p rfl (Ev.convU64 it.uint32 it.uint64 (h := by omega)) ?_
    refine Qui.p rfl (Ev.faB fd.console_trade_1) ?_
    refine Qui.p rfl (Ev.ldB sc.uint64) ?_
    refine Qui.call rfl (fun w hw => bitsMul (x := worthF l[i]!.price) (y := l[i]!.qty) (by omega) htq) ?_
    refine Qui.p rfl Ev.move ?_
    refine Qui.p rfl Ev.extract ?_
    refine Qui.p rfl Ev.extract ?_
    refine Qui.p rfl Ev.assign ?_
    refine Qui.p rfl Ev.assign ?_
    refine Qui.nil ?_
    refine JC.anyP (H0 := [.box b7 62 l[i]!.enc]) mixed (by repeat (first | exact Part.refl _ | exact Part.nil _ | apply Part.here | apply Part.skip)) ?_
    refine Any.p 1 rfl (by kernel_rfl) (by kernel_rfl) (by kernel_rfl) rfl Ev.move ?_
    refine Any.p 2 rfl (by kernel_rfl) (by kernel_rfl) (by kernel_rfl) rfl Ev.move ?_
    refine Any.p 5 rfl (by kernel_rfl) (by kernel_rfl) (by kernel_rfl) rfl (Ev.faB fd.console_trade_1) ?_
    refine Any.p 6 rfl (by kernel_rfl) (by kernel_rfl) (by kernel_rfl) rfl (Ev.ldB sc.uint64) ?_
    refine Any.two 0 4 rfl rfl (by kernel_rfl) ?_ ?_
    · -- first 0
      refine Seq.p rfl (Ev.ldBA (cs := w3 S) ag.console_three) ?_
      refine Seq.nil ⟨(by repeat (first | exact Part.refl _ | exact Part.nil _ | apply Part.here | apply Part.skip)), ?_⟩
      refine Any.call 3 rfl (by kernel_rfl) (by kernel_rfl) (by kernel_rfl) rfl (fun w hw => threePlus (n := S) (hi := worthF l[i]!.price * l[i]!.qty / 18446744073709551616) (lo := worthF l[i]!.price * l[i]!.qty % 18446744073709551616) (by omega) (by omega)) ?_
      refine Any.one 4 rfl (by kernel_rfl) ?_
      refine Seq.p rfl (Ev.ldBA (cs := w3 Q) ag.console_three) ?_
      refine Seq.nil ⟨(by repeat (first | exact Part.refl _ | exact Part.nil _ | apply Part.here | apply Part.skip)), ?_⟩
      refine Any.call 7 rfl (by kernel_rfl) (by kernel_rfl) (by kernel_rfl) rfl (fun w hw => threePlus (n := Q) (hi := 0) (lo := l[i]!.qty) (by omega) htq) ?_
      refine Any.one 8 rfl (by kernel_rfl) ?_
      refine Seq.storeTo (cs' := w3 (sumW (l.take (i + 1)))) sz.console_three (hfit := Nat.le_of_ble_eq_true rfl) (hcs := by rw [hW, show S + worthF l[i]!.price * l[i]!.qty = S + worthF l[i]!.price * l[i]!.qty / 18446744073709551616 * 18446744073709551616 + worthF l[i]!.price * l[i]!.qty % 18446744073709551616 by omega]; rfl) (k := ?_)
      refine Seq.nil ⟨(by repeat (first | exact Part.refl _ | exact Part.nil _ | apply Part.here | apply Part.skip)), ?_⟩
      refine Any.one 9 rfl (by kernel_rfl) ?_
      refine Seq.storeTo (cs' := w3 (sumQ (l.take (i + 1)))) sz.console_three (hfit := Nat.le_of_ble_eq_true rfl) (hcs := by rw [hQ, show Q + l[i]!.qty = Q + 0 * 18446744073709551616 + l[i]!.qty by omega]; rfl) (k := ?_)
      refine Seq.nil ⟨(by repeat (first | exact Part.refl _ | exact Part.nil _ | apply Part.here | apply Part.skip)), ?_⟩
      refine Any.done (by kernel_rfl) ?_
      refine JC.reg ?_
      refine Seq.p rfl (by first | exact Ev.inc | exact Ev.add) ?_
      refine Seq.p rfl Ev.move ?_
      refine Seq.nil ?_
      exact ⟨i + 1, _, Part.skip (Part.refl _), ⟨Has.mk (by repeat (first | refine Off.upd ?_ rfl | exact Off.mix | refine Off.mix2 ?_ rfl | exact Off.refl)) (allLook_cons (by repeat (first | exact Look.here | apply Look.there (hne := rfl) | exact Look.const | apply Look.mix rfl | exact Look.arg0 | apply Look.args | exact Look.func)) allLook_nil), rfl, by omega⟩, by omega⟩
    · -- first 4
      refine Seq.p rfl (Ev.ldBA (cs := w3 Q) ag.console_three) ?_
      refine Seq.nil ⟨(by repeat (first | exact Part.refl _ | exact Part.nil _ | apply Part.here | apply Part.skip)), ?_⟩
      refine Any.one 0 rfl (by kernel_rfl) ?_
      refine Seq.p rfl (Ev.ldBA (cs := w3 S) ag.console_three) ?_
      refine Seq.nil ⟨(by repeat (first | exact Part.refl _ | exact Part.nil _ | apply Part.here | apply Part.skip)), ?_⟩
      refine Any.call 3 rfl (by kernel_rfl) (by kernel_rfl) (by kernel_rfl) rfl (fun w hw => threePlus (n := S) (hi := worthF l[i]!.price * l[i]!.qty / 18446744073709551616) (lo := worthF l[i]!.price * l[i]!.qty % 18446744073709551616) (by omega) (by omega)) ?_
      refine Any.call 7 rfl (by kernel_rfl) (by kernel_rfl) (by kernel_rfl) rfl (fun w hw => threePlus (n := Q) (hi := 0) (lo := l[i]!.qty) (by omega) htq) ?_
      refine Any.one 8 rfl (by kernel_rfl) ?_
      refine Seq.storeTo (cs' := w3 (sumW (l.take (i + 1)))) sz.console_three (hfit := Nat.le_of_ble_eq_true rfl) (hcs := by rw [hW, show S + worthF l[i]!.price * l[i]!.qty = S + worthF l[i]!.price * l[i]!.qty / 18446744073709551616 * 18446744073709551616 + worthF l[i]!.price * l[i]!.qty % 18446744073709551616 by omega]; rfl) (k := ?_)
      refine Seq.nil ⟨(by repeat (first | exact Part.refl _ | exact Part.nil _ | apply Part.here | apply Part.skip)), ?_⟩
      refine Any.one 9 rfl (by kernel_rfl) ?_
      refine Seq.storeTo (cs' := w3 (sumQ (l.take (i + 1)))) sz.console_three (hfit := Nat.le_of_ble_eq_true rfl) (hcs := by rw [hQ, show Q + l[i]!.qty = Q + 0 * 18446744073709551616 + l[i]!.qty by omega]; rfl) (k := ?_)
      refine Seq.nil ⟨(by repeat (first | exact Part.refl _ | exact Part.nil _ | apply Part.here | apply Part.skip)), ?_⟩
      refine Any.done (by kernel_rfl) ?_
      refine JC.reg ?_
      refine Seq.p rfl (by first | exact Ev.inc | exact Ev.add) ?_
      refine Seq.p rfl Ev.move ?_
      refine Seq.nil ?_
      exact ⟨i + 1, _, Part.skip (Part.refl _), ⟨Has.mk (by repeat (first | refine Off.upd ?_ rfl | exact Off.mix | refine Off.mix2 ?_ rfl | exact Off.refl)) (allLook_cons (by repeat (first | exact Look.here | apply Look.there (hne := rfl) | exact Look.const | apply Look.mix rfl | exact Look.arg0 | apply Look.args | exact Look.func)) allLook_nil), rfl, by omega⟩, by omega⟩
  · -- else_t19
    obtain rfl : i = l.length := by omega
    rw [List.take_length]
    obtain ⟨S, hS⟩ : ∃ m, m = sumW l := ⟨_, rfl⟩
    obtain ⟨Q, hQe⟩ : ∃ m, m = sumQ l := ⟨_, rfl⟩
    rw [← hS] at hb1 ⊢
    rw [← hQe] at hb2 ⊢
    refine JC.exit ?_ -- 0
    refine JC.seq ?_
    refine JC.rs ?_
    refine Seq.p rfl (Ev.ldBA (cs := w3 Q) ag.console_three) ?_
    refine Seq.p rfl (Ev.buildArrN [_, _, _] ar.console_three z.console_three) ?_
    refine Seq.p rfl (Ev.as (v' := .bool (decide (Q = 0))) (by rw [← w3_zero (n := Q) (by omega)]) (Ev.eqAg (ys := w3 0) so.console_three ag.console_three gd.console_three)) ?_
    refine Seq.nil ?_
    first | refine JC.c (ht := fun c42 => ?_) (hf := fun c42 => ?_) | refine JC.cb (ht := fun c42 => ?_) (hf := fun c42 => ?_)
    · -- then_t42
      skip
      refine JC.rs ?_
      refine Seq.p rfl Ev.assign ?_
      refine Seq.p rfl Ev.assign ?_
      refine Seq.nil ?_
      refine JC.ret ?_
      show retQ _ _ _ _ _ _ _ _
      refine ret2 (hp := Part.nil _) (hpost := ?_)
      rw [meanF, ← hQe, if_pos c42]; rfl
    · -- else_t42
      refine JC.skip ?_
      refine JC.as mixed ?_
      refine Any.p 0 rfl (by kernel_rfl) (by kernel_rfl) (by kernel_rfl) rfl (Ev.ldBA (cs := w3 S) ag.console_three) ?_
      refine Any.call 1 rfl (by kernel_rfl) (by kernel_rfl) (by kernel_rfl) rfl (fun w hw => threeTimes (n := S) (m := 100) (by omega)) ?_
      refine Any.p 2 rfl (by kernel_rfl) (by kernel_rfl) (by kernel_rfl) rfl (Ev.ldBA (cs := w3 Q) ag.console_three) ?_
      refine Any.call 3 rfl (by kernel_rfl) (by kernel_rfl) (by kernel_rfl) rfl (fun w hw => threeDivided (n := S * 100) (d := Q) (by omega) (by omega) (by omega)) ?_
      refine Any.p 4 rfl (by kernel_rfl) (by kernel_rfl) (by kernel_rfl) rfl Ev.move ?_
      refine Any.p 5 rfl (by kernel_rfl) (by kernel_rfl) (by kernel_rfl) rfl Ev.extract ?_
      refine Any.p 6 rfl (by kernel_rfl) (by kernel_rfl) (by kernel_rfl) rfl Ev.extract ?_
      refine Any.two 7 8 rfl rfl (by kernel_rfl) ?_ ?_
      · -- first 7
        refine Seq.alloc (cs := [_, _, _]) (hz := z.console_three) (k := ?_); intro b10
        refine Seq.nil ⟨(by repeat (first | exact Part.refl _ | exact Part.nil _ | apply Part.here | apply Part.skip)), ?_⟩
        refine Any.one 8 rfl (by kernel_rfl) ?_
        refine Seq.alloc (cs := [_, _, _]) (hz := z.console_three) (k := ?_); intro b11
        refine Seq.nil ⟨(by repeat (first | exact Part.refl _ | exact Part.nil _ | apply Part.here | apply Part.skip)), ?_⟩
        refine Any.one 9 rfl (by kernel_rfl) ?_
        refine Seq.storeTo (cs' := w3 (S * 100 / Q)) sz.console_three (hfit := Nat.le_of_ble_eq_true rfl) (hcs := rfl) (k := ?_)
        refine Seq.nil ⟨(by repeat (first | exact Part.refl _ | exact Part.nil _ | apply Part.here | apply Part.skip)), ?_⟩
        refine Any.one 10 rfl (by kernel_rfl) ?_
        refine Seq.storeTo (cs' := w3 (S * 100 % Q)) sz.console_three (hfit := Nat.le_of_ble_eq_true rfl) (hcs := rfl) (k := ?_)
        refine Seq.nil ⟨(by repeat (first | exact Part.refl _ | exact Part.nil _ | apply Part.here | apply Part.skip)), ?_⟩
        refine Any.done (by kernel_rfl) ?_
        refine JC.qs mixed (by kernel_rfl) ?_
        refine Qui.p rfl (Ev.ldBA (cs := w3 (S * 100 % Q)) ag.console_three) ?_
        refine Qui.call rfl (fun w hw => threeDoubled) ?_
        refine Qui.p rfl (Ev.ldBA (cs := w3 Q) ag.console_three) ?_
        refine Qui.call rfl (fun w hw => threeCompare (n := S * 100 % Q * 2) (m := Q) (by have := Nat.mod_lt (S * 100) (show 0 < Q by omega); omega) (by omega)) ?_
        refine Qui.p rfl Ev.assign ?_
        refine Qui.nil ?_
        refine JC.seq ?_
        refine JC.rs ?_
        refine Seq.p rfl Ev.move ?_
        refine Seq.p rfl Ev.gt ?_
        refine Seq.p rfl Ev.move ?_
        refine Seq.orG (D := [56, 57, 58, 59, 60, 61, 62, 63, 64, 65]) (d := 56) (t := 65) (k := 9) (hn := fun h56 => ?_) (hx := ?_)
        · repeat (first | refine Seq.gn rfl rfl rfl rfl ?_ | refine Seq.gu rfl rfl rfl ?_)
          refine Seq.p rfl Ev.pickT ?_
          exact Seq.nil ⟨rfl, (by repeat (first | with_reducible exact Off.refl | refine Off.upd ?_ rfl | exact Off.mix | refine Off.mix2 ?_ rfl)), Look.here⟩
        apply Exists.intro
        refine ⟨fun h56 => ?_, fun u65 => ?_⟩
        · try simp only [decide_eq_true_eq, decide_eq_false_iff_not, Bool.and_eq_true, Bool.or_eq_true, Bool.not_eq_true', Bool.not_eq_false', Bool.or_eq_false_iff, Bool.and_eq_false_imp] at h56
          refine Seq.gy rfl rfl rfl ?_
          refine Seq.p rfl Ev.move ?_
          refine Seq.gy rfl rfl rfl ?_
          refine Seq.p rfl Ev.eq ?_
          refine Seq.gy rfl rfl rfl ?_
          refine Seq.p rfl Ev.move ?_
          refine Seq.andG (D := [59, 60, 61, 62, 63, 64]) (d := 59) (t := 64) (k := 5) (hn := fun h59 => ?_) (hx := ?_)
          · repeat (first | refine Seq.gn rfl rfl rfl rfl ?_ | refine Seq.gu rfl rfl rfl ?_)
            refine Seq.gy rfl rfl rfl ?_
            refine Seq.p rfl Ev.pickF ?_
            exact Seq.nil ⟨rfl, (by repeat (first | with_reducible exact Off.refl | refine Off.upd ?_ rfl | exact Off.mix | refine Off.mix2 ?_ rfl)), Look.here⟩
          apply Exists.intro
          refine ⟨fun h59 => ?_, fun u64 => ?_⟩
          · try simp only [decide_eq_true_eq, decide_eq_false_iff_not, Bool.and_eq_true, Bool.or_eq_true, Bool.not_eq_true', Bool.not_eq_false', Bool.or_eq_false_iff, Bool.and_eq_false_imp] at h59
            refine Seq.gy rfl rfl rfl ?_
            refine Seq.p rfl (Ev.iaArrB ar.console_three) ?_
            refine Seq.gy rfl rfl rfl ?_
            refine Seq.p rfl (Ev.ldB sc.uint64 (hv := w3_get0)) ?_
            refine Seq.gy rfl rfl rfl ?_
            refine Seq.p rfl (Ev.remNU (b := 2)) ?_
            refine Seq.gy rfl rfl rfl ?_
            refine Seq.p rfl Ev.eq ?_
            refine Seq.gy rfl rfl rfl ?_
            refine Seq.p rfl Ev.pickT ?_
            exact Seq.nil ⟨rfl, (by repeat (first | with_reducible exact Off.refl | refine Off.upd ?_ rfl | exact Off.mix | refine Off.mix2 ?_ rfl)), Look.here⟩
          refine Seq.p rfl Ev.pickF ?_
          exact Seq.nil ⟨rfl, (by repeat (first | with_reducible exact Off.refl | refine Off.upd ?_ rfl | exact Off.mix | refine Off.mix2 ?_ rfl)), Look.here⟩
        refine Seq.nil ?_
        first | refine JC.c (ht := fun c65 => ?_) (hf := fun c65 => ?_) | refine JC.cb (ht := fun c65 => ?_) (hf := fun c65 => ?_)
        · -- then_t65
          rw [round_c] at c65
          have hX : S * 100 / Q + 0 * 18446744073709551616 + 1 = roundF (S * 100) Q := by rw [roundF, if_pos (of_decide_eq_true c65), Nat.zero_mul, Nat.add_zero]
          refine JC.reg ?_
          refine Seq.p rfl (Ev.ldBA (cs := w3 (S * 100 / Q)) ag.console_three) ?_
          refine Seq.callP rfl (fun w hw => threePlus (n := S * 100 / Q) (hi := 0) (lo := 1) (by omega) (by omega)) ?_
          refine Seq.storeTo (cs' := w3 (roundF (S * 100) Q)) sz.console_three (hfit := Nat.le_of_ble_eq_true rfl) (hcs := by rw [← hX]; rfl) (k := ?_)
          refine Seq.nil ?_
          refine JC.seq ?_
          refine JC.rs ?_
          refine Seq.p rfl (Ev.iaArrB ar.console_three) ?_
          refine Seq.p rfl (Ev.ldB sc.uint64) ?_
          refine Seq.p rfl (Ev.iaArrB ar.console_three) ?_
          refine Seq.p rfl (Ev.ldB sc.uint64) ?_
          refine Seq.p rfl Ev.orN ?_
          refine Seq.p rfl Ev.ne ?_
          refine Seq.nil ?_
          first | refine JC.c (ht := fun c73 => ?_) (hf := fun c73 => ?_) | refine JC.cb (ht := fun c73 => ?_) (hf := fun c73 => ?_)
          · -- then_t73
            have hbig : ¬ roundF (S * 100) Q < 18446744073709551616 := fun h => by
              have h2 := (high_zero (roundF_lt (q := Q) (show S * 100 < 6277101735386680763835789423207666416102355444464034512895 by omega))).2 h
              apply c73
              rw [h2]
              rfl
            refine JC.rs ?_
            refine Seq.p rfl Ev.assign ?_
            refine Seq.p rfl Ev.assign ?_
            refine Seq.nil ?_
            refine JC.ret ?_
            show retQ _ _ _ _ _ _ _ _
            refine ret2 (hp := Part.nil _) (hpost := ?_)
            rw [meanF, ← hQe, ← hS, if_neg c42]
            first | (rw [if_neg hbig]; done) | (rw [if_neg hbig]; rfl) | (rw [if_pos hsm, Nat.mod_eq_of_lt hsm]; done) | (rw [if_pos hsm, Nat.mod_eq_of_lt hsm]; rfl)
          · -- else_t73
            have hsm : roundF (S * 100) Q < 18446744073709551616 := by
              refine (high_zero (roundF_lt (q := Q) (show S * 100 < 6277101735386680763835789423207666416102355444464034512895 by omega))).1 ?_
              omega
            refine JC.skip ?_
            refine JC.rs ?_
            refine Seq.p rfl (Ev.iaArrB ar.console_three) ?_
            refine Seq.p rfl (Ev.ldB sc.uint64) ?_
            refine Seq.p rfl Ev.assign ?_
            refine Seq.p rfl Ev.assign ?_
            refine Seq.nil ?_
            refine JC.ret ?_
            show retQ _ _ _ _ _ _ _ _
            refine ret2 (hp := Part.nil _) (hpost := ?_)
            rw [meanF, ← hQe, ← hS, if_neg c42]
            first | (rw [if_neg hbig]; done) | (rw [if_neg hbig]; rfl) | (rw [if_pos hsm, Nat.mod_eq_of_lt hsm]; done) | (rw [if_pos hsm, Nat.mod_eq_of_lt hsm]; rfl)
        · -- else_t65
          rw [round_c] at c65
          have hX : S * 100 / Q = roundF (S * 100) Q := by rw [roundF, if_neg (of_decide_eq_false c65)]
          rw [hX]
          refine JC.skip ?_
          refine JC.seq ?_
          refine JC.rs ?_
          refine Seq.p rfl (Ev.iaArrB ar.console_three) ?_
          refine Seq.p rfl (Ev.ldB sc.uint64) ?_
          refine Seq.p rfl (Ev.iaArrB ar.console_three) ?_
          refine Seq.p rfl (Ev.ldB sc.uint64) ?_
          refine Seq.p rfl Ev.orN ?_
          refine Seq.p rfl Ev.ne ?_
          refine Seq.nil ?_
          first | refine JC.c (ht := fun c73 => ?_) (hf := fun c73 => ?_) | refine JC.cb (ht := fun c73 => ?_) (hf := fun c73 => ?_)
          · -- then_t73
            have hbig : ¬ roundF (S * 100) Q < 18446744073709551616 := fun h => by
              have h2 := (high_zero (roundF_lt (q := Q) (show S * 100 < 6277101735386680763835789423207666416102355444464034512895 by omega))).2 h
              apply c73
              rw [h2]
              rfl
            refine JC.rs ?_
            refine Seq.p rfl Ev.assign ?_
            refine Seq.p rfl Ev.assign ?_
            refine Seq.nil ?_
            refine JC.ret ?_
            show retQ _ _ _ _ _ _ _ _
            refine ret2 (hp := Part.nil _) (hpost := ?_)
            rw [meanF, ← hQe, ← hS, if_neg c42]
            first | (rw [if_neg hbig]; done) | (rw [if_neg hbig]; rfl) | (rw [if_pos hsm, Nat.mod_eq_of_lt hsm]; done) | (rw [if_pos hsm, Nat.mod_eq_of_lt hsm]; rfl)
          · -- else_t73
            have hsm : roundF (S * 100) Q < 18446744073709551616 := by
              refine (high_zero (roundF_lt (q := Q) (show S * 100 < 6277101735386680763835789423207666416102355444464034512895 by omega))).1 ?_
              omega
            refine JC.skip ?_
            refine JC.rs ?_
            refine Seq.p rfl (Ev.iaArrB ar.console_three) ?_
            refine Seq.p rfl (Ev.ldB sc.uint64) ?_
            refine Seq.p rfl Ev.assign ?_
            refine Seq.p rfl Ev.assign ?_
            refine Seq.nil ?_
            refine JC.ret ?_
            show retQ _ _ _ _ _ _ _ _
            refine ret2 (hp := Part.nil _) (hpost := ?_)
            rw [meanF, ← hQe, ← hS, if_neg c42]
            first | (rw [if_neg hbig]; done) | (rw [if_neg hbig]; rfl) | (rw [if_pos hsm, Nat.mod_eq_of_lt hsm]; done) | (rw [if_pos hsm, Nat.mod_eq_of_lt hsm]; rfl)
      · -- first 8
        refine Seq.alloc (cs := [_, _, _]) (hz := z.console_three) (k := ?_); intro b11
        refine Seq.nil ⟨(by repeat (first | exact Part.refl _ | exact Part.nil _ | apply Part.here | apply Part.skip)), ?_⟩
        refine Any.one 7 rfl (by kernel_rfl) ?_
        refine Seq.alloc (cs := [_, _, _]) (hz := z.console_three) (k := ?_); intro b10
        refine Seq.nil ⟨(by repeat (first | exact Part.refl _ | exact Part.nil _ | apply Part.here | apply Part.skip)), ?_⟩
        refine Any.one 9 rfl (by kernel_rfl) ?_
        refine Seq.storeTo (cs' := w3 (S * 100 / Q)) sz.console_three (hfit := Nat.le_of_ble_eq_true rfl) (hcs := rfl) (k := ?_)
        refine Seq.nil ⟨(by repeat (first | exact Part.refl _ | exact Part.nil _ | apply Part.here | apply Part.skip)), ?_⟩
        refine Any.one 10 rfl (by kernel_rfl) ?_
        refine Seq.storeTo (cs' := w3 (S * 100 % Q)) sz.console_three (hfit := Nat.le_of_ble_eq_true rfl) (hcs := rfl) (k := ?_)
        refine Seq.nil ⟨(by repeat (first | exact Part.refl _ | exact Part.nil _ | apply Part.here | apply Part.skip)), ?_⟩
        refine Any.done (by kernel_rfl) ?_
        refine JC.qs mixed (by kernel_rfl) ?_
        refine Qui.p rfl (Ev.ldBA (cs := w3 (S * 100 % Q)) ag.console_three) ?_
        refine Qui.call rfl (fun w hw => threeDoubled) ?_
        refine Qui.p rfl (Ev.ldBA (cs := w3 Q) ag.console_three) ?_
        refine Qui.call rfl (fun w hw => threeCompare (n := S * 100 % Q * 2) (m := Q) (by have := Nat.mod_lt (S * 100) (show 0 < Q by omega); omega) (by omega)) ?_
        refine Qui.p rfl Ev.assign ?_
        refine Qui.nil ?_
        refine JC.seq ?_
        refine JC.rs ?_
        refine Seq.p rfl Ev.move ?_
        refine Seq.p rfl Ev.gt ?_
        refine Seq.p rfl Ev.move ?_
        refine Seq.orG (D := [56, 57, 58, 59, 60, 61, 62, 63, 64, 65]) (d := 56) (t := 65) (k := 9) (hn := fun h56 => ?_) (hx := ?_)
        · repeat (first | refine Seq.gn rfl rfl rfl rfl ?_ | refine Seq.gu rfl rfl rfl ?_)
          refine Seq.p rfl Ev.pickT ?_
          exact Seq.nil ⟨rfl, (by repeat (first | with_reducible exact Off.refl | refine Off.upd ?_ rfl | exact Off.mix | refine Off.mix2 ?_ rfl)), Look.here⟩
        apply Exists.intro
        refine ⟨fun h56 => ?_, fun u65 => ?_⟩
        · try simp only [decide_eq_true_eq, decide_eq_false_iff_not, Bool.and_eq_true, Bool.or_eq_true, Bool.not_eq_true', Bool.not_eq_false', Bool.or_eq_false_iff, Bool.and_eq_false_imp] at h56
          refine Seq.gy rfl rfl rfl ?_
          refine Seq.p rfl Ev.move ?_
          refine Seq.gy rfl rfl rfl ?_
          refine Seq.p rfl Ev.eq ?_
          refine Seq.gy rfl rfl rfl ?_
          refine Seq.p rfl Ev.move ?_
          refine Seq.andG (D := [59, 60, 61, 62, 63, 64]) (d := 59) (t := 64) (k := 5) (hn := fun h59 => ?_) (hx := ?_)
          · repeat (first | refine Seq.gn rfl rfl rfl rfl ?_ | refine Seq.gu rfl rfl rfl ?_)
            refine Seq.gy rfl rfl rfl ?_
            refine Seq.p rfl Ev.pickF ?_
            exact Seq.nil ⟨rfl, (by repeat (first | with_reducible exact Off.refl | refine Off.upd ?_ rfl | exact Off.mix | refine Off.mix2 ?_ rfl)), Look.here⟩
          apply Exists.intro
          refine ⟨fun h59 => ?_, fun u64 => ?_⟩
          · try simp only [decide_eq_true_eq, decide_eq_false_iff_not, Bool.and_eq_true, Bool.or_eq_true, Bool.not_eq_true', Bool.not_eq_false', Bool.or_eq_false_iff, Bool.and_eq_false_imp] at h59
            refine Seq.gy rfl rfl rfl ?_
            refine Seq.p rfl (Ev.iaArrB ar.console_three) ?_
            refine Seq.gy rfl rfl rfl ?_
            refine Seq.p rfl (Ev.ldB sc.uint64 (hv := w3_get0)) ?_
            refine Seq.gy rfl rfl rfl ?_
            refine Seq.p rfl (Ev.remNU (b := 2)) ?_
            refine Seq.gy rfl rfl rfl ?_
            refine Seq.p rfl Ev.eq ?_
            refine Seq.gy rfl rfl rfl ?_
            refine Seq.p rfl Ev.pickT ?_
            exact Seq.nil ⟨rfl, (by repeat (first | with_reducible exact Off.refl | refine Off.upd ?_ rfl | exact Off.mix | refine Off.mix2 ?_ rfl)), Look.here⟩
          refine Seq.p rfl Ev.pickF ?_
          exact Seq.nil ⟨rfl, (by repeat (first | with_reducible exact Off.refl | refine Off.upd ?_ rfl | exact Off.mix | refine Off.mix2 ?_ rfl)), Look.here⟩
        refine Seq.nil ?_
        first | refine JC.c (ht := fun c65 => ?_) (hf := fun c65 => ?_) | refine JC.cb (ht := fun c65 => ?_) (hf := fun c65 => ?_)
        · -- then_t65
          rw [round_c] at c65
          have hX : S * 100 / Q + 0 * 18446744073709551616 + 1 = roundF (S * 100) Q := by rw [roundF, if_pos (of_decide_eq_true c65), Nat.zero_mul, Nat.add_zero]
          refine JC.reg ?_
          refine Seq.p rfl (Ev.ldBA (cs := w3 (S * 100 / Q)) ag.console_three) ?_
          refine Seq.callP rfl (fun w hw => threePlus (n := S * 100 / Q) (hi := 0) (lo := 1) (by omega) (by omega)) ?_
          refine Seq.storeTo (cs' := w3 (roundF (S * 100) Q)) sz.console_three (hfit := Nat.le_of_ble_eq_true rfl) (hcs := by rw [← hX]; rfl) (k := ?_)
          refine Seq.nil ?_
          refine JC.seq ?_
          refine JC.rs ?_
          refine Seq.p rfl (Ev.iaArrB ar.console_three) ?_
          refine Seq.p rfl (Ev.ldB sc.uint64) ?_
          refine Seq.p rfl (Ev.iaArrB ar.console_three) ?_
          refine Seq.p rfl (Ev.ldB sc.uint64) ?_
          refine Seq.p rfl Ev.orN ?_
          refine Seq.p rfl Ev.ne ?_
          refine Seq.nil ?_
          first | refine JC.c (ht := fun c73 => ?_) (hf := fun c73 => ?_) | refine JC.cb (ht := fun c73 => ?_) (hf := fun c73 => ?_)
          · -- then_t73
            have hbig : ¬ roundF (S * 100) Q < 18446744073709551616 := fun h => by
              have h2 := (high_zero (roundF_lt (q := Q) (show S * 100 < 6277101735386680763835789423207666416102355444464034512895 by omega))).2 h
              apply c73
              rw [h2]
              rfl
            refine JC.rs ?_
            refine Seq.p rfl Ev.assign ?_
            refine Seq.p rfl Ev.assign ?_
            refine Seq.nil ?_
            refine JC.ret ?_
            show retQ _ _ _ _ _ _ _ _
            refine ret2 (hp := Part.nil _) (hpost := ?_)
            rw [meanF, ← hQe, ← hS, if_neg c42]
            first | (rw [if_neg hbig]; done) | (rw [if_neg hbig]; rfl) | (rw [if_pos hsm, Nat.mod_eq_of_lt hsm]; done) | (rw [if_pos hsm, Nat.mod_eq_of_lt hsm]; rfl)
          · -- else_t73
            have hsm : roundF (S * 100) Q < 18446744073709551616 := by
              refine (high_zero (roundF_lt (q := Q) (show S * 100 < 6277101735386680763835789423207666416102355444464034512895 by omega))).1 ?_
              omega
            refine JC.skip ?_
            refine JC.rs ?_
            refine Seq.p rfl (Ev.iaArrB ar.console_three) ?_
            refine Seq.p rfl (Ev.ldB sc.uint64) ?_
            refine Seq.p rfl Ev.assign ?_
            refine Seq.p rfl Ev.assign ?_
            refine Seq.nil ?_
            refine JC.ret ?_
            show retQ _ _ _ _ _ _ _ _
            refine ret2 (hp := Part.nil _) (hpost := ?_)
            rw [meanF, ← hQe, ← hS, if_neg c42]
            first | (rw [if_neg hbig]; done) | (rw [if_neg hbig]; rfl) | (rw [if_pos hsm, Nat.mod_eq_of_lt hsm]; done) | (rw [if_pos hsm, Nat.mod_eq_of_lt hsm]; rfl)
        · -- else_t65
          rw [round_c] at c65
          have hX : S * 100 / Q = roundF (S * 100) Q := by rw [roundF, if_neg (of_decide_eq_false c65)]
          rw [hX]
          refine JC.skip ?_
          refine JC.seq ?_
          refine JC.rs ?_
          refine Seq.p rfl (Ev.iaArrB ar.console_three) ?_
          refine Seq.p rfl (Ev.ldB sc.uint64) ?_
          refine Seq.p rfl (Ev.iaArrB ar.console_three) ?_
          refine Seq.p rfl (Ev.ldB sc.uint64) ?_
          refine Seq.p rfl Ev.orN ?_
          refine Seq.p rfl Ev.ne ?_
          refine Seq.nil ?_
          first | refine JC.c (ht := fun c73 => ?_) (hf := fun c73 => ?_) | refine JC.cb (ht := fun c73 => ?_) (hf := fun c73 => ?_)
          · -- then_t73
            have hbig : ¬ roundF (S * 100) Q < 18446744073709551616 := fun h => by
              have h2 := (high_zero (roundF_lt (q := Q) (show S * 100 < 6277101735386680763835789423207666416102355444464034512895 by omega))).2 h
              apply c73
              rw [h2]
              rfl
            refine JC.rs ?_
            refine Seq.p rfl Ev.assign ?_
            refine Seq.p rfl Ev.assign ?_
            refine Seq.nil ?_
            refine JC.ret ?_
            show retQ _ _ _ _ _ _ _ _
            refine ret2 (hp := Part.nil _) (hpost := ?_)
            rw [meanF, ← hQe, ← hS, if_neg c42]
            first | (rw [if_neg hbig]; done) | (rw [if_neg hbig]; rfl) | (rw [if_pos hsm, Nat.mod_eq_of_lt hsm]; done) | (rw [if_pos hsm, Nat.mod_eq_of_lt hsm]; rfl)
          · -- else_t73
            have hsm : roundF (S * 100) Q < 18446744073709551616 := by
              refine (high_zero (roundF_lt (q := Q) (show S * 100 < 6277101735386680763835789423207666416102355444464034512895 by omega))).1 ?_
              omega
            refine JC.skip ?_
            refine JC.rs ?_
            refine Seq.p rfl (Ev.iaArrB ar.console_three) ?_
            refine Seq.p rfl (Ev.ldB sc.uint64) ?_
            refine Seq.p rfl Ev.assign ?_
            refine Seq.p rfl Ev.assign ?_
            refine Seq.nil ?_
            refine JC.ret ?_
            show retQ _ _ _ _ _ _ _ _
            refine ret2 (hp := Part.nil _) (hpost := ?_)
            rw [meanF, ← hQe, ← hS, if_neg c42]
            first | (rw [if_neg hbig]; done) | (rw [if_neg hbig]; rfl) | (rw [if_pos hsm, Nat.mod_eq_of_lt hsm]; done) | (rw [if_pos hsm, Nat.mod_eq_of_lt hsm]; rfl)
end Go.Rx
/- New statistics; words of money; bars compared. -/
namespace Go.Rx
open Go Go.RowKit
set_option linter.unusedVariables false
set_option linter.unusedSimpArgs false
theorem statsNew {w : World} : Spec Go.Proofs.Try.prog 5 #[] w [] (fun u F' => ∃ b, u = .pointer (some ⟨b, 0, none⟩) ∧ F' = [statsC b (.slice none 0 0), trdC (.slice none 0 0) []]) := by
  refine Spec.enter (fn := Go.Proofs.Try.f5) (n := 3) [] Go.Proofs.Try.func5 (by kernel_rfl) rfl Go.Proofs.Try.ntmps5 Go.Proofs.Try.results5 rfl (Own.nil _) ?_
  refine JC.rs ?_
  refine Seq.p rfl Ev.assign ?_
  refine Seq.nil ?_
  refine JC.rs ?_
  refine Seq.p rfl (Ev.buildN [_] pl.console_Stats z.console_Stats) ?_
  refine Seq.box (cs := [_]) (k := ?_); intro b2
  refine Seq.p rfl Ev.assign ?_
  refine Seq.nil ?_
  refine JC.re (fun w h => Upd.nilOwn h 62 2) ?_
  refine JC.ret ?_
  show retQ _ _ _ _ _ _ _ _
  refine ret1 (H' := [statsC b2 (.slice none 0 0), trdC (.slice none 0 0) []]) (hp := Part.at (At.s At.z) (Part.at At.z (Part.nil _))) (hpost := ?_)
  exact ⟨b2, rfl, rfl⟩
def wordsV (n : Nat) : List Value := [.int .u64 ((n / 18446744073709551616 : Nat) : Int), .int .u64 ((n % 18446744073709551616 : Nat) : Int)]
theorem Bar.eqL_enc (x y : Bar) : eqL x.enc y.enc = decide (x = y) := by
  cases x; cases y
  rw [Bool.eq_iff_iff]
  simp [Bar.enc, eqL, eqV]
  omega
theorem bars_iff_get (xs ys : List Bar) (h : xs.length = ys.length) : xs = ys ↔ ∀ j, j < xs.length → xs[j]! = ys[j]! := by
  constructor
  · rintro rfl _ _; rfl
  · intro hg
    refine List.ext_getElem h (fun i h1 h2 => ?_)
    have := hg i h1
    rwa [getElem!_pos xs i h1, getElem!_pos ys i h2] at this
set_option maxHeartbeats 1000000 in
theorem barsEqual {w : World} {va vb : Value} {xs ys : List Bar} (ha : RSl Bar.enc 6 w [] va xs) (hb : RSl Bar.enc 6 w [] vb ys) :
    Spec Go.Proofs.Try.prog 10 #[va, vb] w [] (fun u _ => u = .bool (decide (xs = ys))) := by
  have ha1 := ha.small
  have hb1 := hb.small
  refine Spec.enter (fn := Go.Proofs.Try.f10) (n := 26) [va, vb] Go.Proofs.Try.func10 (by kernel_rfl) rfl Go.Proofs.Try.ntmps10 Go.Proofs.Try.results10 rfl (Own.nil _) ?_
  refine JC.rs ?_
  refine Seq.p rfl Ev.assign ?_
  refine Seq.nil ?_
  refine JC.seq ?_
  refine JC.rs ?_
  refine Seq.p rfl Ev.move ?_
  refine Seq.p rfl (Ev.lenSl sl.sl_api_Bar (hr := ha.r)) ?_
  refine Seq.p rfl Ev.move ?_
  refine Seq.p rfl (Ev.lenSl sl.sl_api_Bar (hr := hb.r)) ?_
  refine Seq.p rfl Ev.ne ?_
  refine Seq.nil ?_
  first | refine JC.c (ht := fun c10 => ?_) (hf := fun c10 => ?_) | refine JC.cb (ht := fun c10 => ?_) (hf := fun c10 => ?_)
  · -- then_t10
    refine JC.rs ?_
    refine Seq.p rfl Ev.assign ?_
    refine Seq.nil ?_
    refine JC.ret ?_
    show retQ _ _ _ _ _ _ _ _
    refine ret1 (hp := Part.nil _) (hpost := ?_)
    rw [decide_eq_false (fun h => c10 (by rw [h]))]
  · -- else_t10
    have hlen : xs.length = ys.length := by omega
    refine JC.skip ?_
    refine JC.seq ?_
    refine JC.rs ?_
    refine Seq.p rfl Ev.assign ?_
    refine Seq.nil ?_
    refine JC.blk ?_
    refine JC.loop (α := Nat) (I := fun i e1 H1 => Has [4, 5, 11, 12, 13, 14, 15, 16, 17, 18, 19, 20, 21, 22, 23, 24, 25] [(5, .int .i64 (i : Int))] _ e1 ∧ H1 = [] ∧ i ≤ xs.length ∧ ∀ j, j < i → xs[j]! = ys[j]!) (μ := fun i => xs.length - i) 0 ⟨Has.mk Off.refl (allLook_cons (by repeat (first | exact Look.here | apply Look.there (hne := rfl) | exact Look.const | apply Look.mix rfl | exact Look.arg0 | apply Look.args | exact Look.func)) allLook_nil), rfl, by omega, fun j h => by omega⟩ ?_
    rintro i _ _ ⟨⟨u, rfl⟩, rfl, hi, hlt⟩; dsimp only [setL]
    refine JC.seq ?_
    refine JC.rs ?_
    refine Seq.p rfl Ev.move ?_
    refine Seq.p rfl Ev.move ?_
    refine Seq.p rfl (Ev.lenSl sl.sl_api_Bar (hr := ha.r)) ?_
    refine Seq.p rfl Ev.lt ?_
    refine Seq.nil ?_
    first | refine JC.c (ht := fun c14 => ?_) (hf := fun c14 => ?_) | refine JC.cb (ht := fun c14 => ?_) (hf := fun c14 => ?_)
    · -- then_t14
      have hi2 : i < xs.length := by omega
      refine JC.skip ?_
      refine JC.seq ?_
      refine JC.blk ?_
      refine JC.qs mixed (by kernel_rfl) ?_
      refine Qui.p rfl Ev.move ?_
      refine Qui.p rfl Ev.move ?_
      refine Qui.p rfl (Ev.iaN sl.sl_api_Bar (hr := ha.r)) ?_
      refine Qui.p rfl (Ev.ldEA ag.api_Bar (hr := ha.r)) ?_
      refine Qui.p rfl Ev.move ?_
      refine Qui.p rfl Ev.move ?_
      refine Qui.p rfl (Ev.iaN sl.sl_api_Bar (hr := hb.r)) ?_
      refine Qui.p rfl (Ev.ldEA ag.api_Bar (hr := hb.r)) ?_
      refine Qui.p rfl (Ev.as (v' := .bool (!(decide (xs[i]! = ys[i]!)))) (by rw [← Bar.eqL_enc]) (Ev.neAg (xs := xs[i]!.enc) (ys := ys[i]!.enc) so.api_Bar ag.api_Bar gd.api_Bar)) ?_
      refine Qui.nil ?_
      first | refine JC.c (ht := fun c25 => ?_) (hf := fun c25 => ?_) | refine JC.cb (ht := fun c25 => ?_) (hf := fun c25 => ?_)
      · -- then_t25
        have hne : ¬ xs = ys := fun h => by rw [h] at c25; simp at c25
        refine JC.rs ?_
        refine Seq.p rfl Ev.assign ?_
        refine Seq.nil ?_
        refine JC.ret ?_
        show retQ _ _ _ _ _ _ _ _
        refine ret1 (hp := Part.nil _) (hpost := ?_)
        rw [decide_eq_false hne]
      · -- else_t25
        have heq : xs[i]! = ys[i]! := by simpa using c25
        refine JC.skip ?_
        refine JC.reg ?_
        refine Seq.p rfl Ev.move ?_
        refine Seq.p rfl (by first | exact Ev.inc | exact Ev.add) ?_
        refine Seq.p rfl Ev.assign ?_
        refine Seq.nil ?_
        refine ⟨i + 1, _, Part.refl _, ⟨Has.mk (by repeat (first | refine Off.upd ?_ rfl | exact Off.mix | refine Off.mix2 ?_ rfl | exact Off.refl)) (allLook_cons (by repeat (first | exact Look.here | apply Look.there (hne := rfl) | exact Look.const | apply Look.mix rfl | exact Look.arg0 | apply Look.args | exact Look.func)) allLook_nil), rfl, by omega, fun j hj => ?_⟩, by omega⟩
        by_cases h : j = i
        · rw [h, heq]
        · exact hlt j (by omega)
    · -- else_t14
      have h9 := (bars_iff_get xs ys hlen).2 (fun j hj => hlt j (by omega))
      refine JC.exit ?_ -- 0
      refine JC.rs ?_
      refine Seq.p rfl Ev.assign ?_
      refine Seq.nil ?_
      refine JC.ret ?_
      show retQ _ _ _ _ _ _ _ _
      refine ret1 (hp := Part.nil _) (hpost := ?_)
      rw [decide_eq_true h9]
end Go.Rx
/- Plain facts: the bars of a day, put together; the mean lies between. -/
namespace Go.Rx
open Go Go.RowKit
set_option linter.unusedVariables false
set_option linter.unusedSimpArgs false
def mergeF (s b : Bar) : Bar := ⟨s.op, if s.hi < b.hi then b.hi else s.hi, if b.lo < s.lo then b.lo else s.lo, b.cl, (s.vol + b.vol) % 18446744073709551616, s.n + b.n⟩
def sumF : List Bar → Bar
  | [] => ⟨0, 0, 0, 0, 0, 0⟩
  | b :: l => l.foldl mergeF b
end Go.Rx
/- What stands in the statistics, read where it is held. -/
namespace Go.Rx
open Go Go.RowKit
set_option linter.unusedVariables false
set_option linter.unusedSimpArgs false
theorem evOne : ∀ (x : Event), ∀ u ∈ x.enc, u.oneCell' = true := by
  intro x u hu
  simp [Event.enc] at hu
  rcases hu with h | h | h | h | h | h | h | h | h | h | h | h | h <;> (subst h; rfl)
section
variable {w0 w : World} {Cs H : List Chunk} {b i j : Nat} {v : Value} {l : List Trd}
theorem cell_own (hH : At H i (statsC b v)) (hw : Upd w0 w Cs H) : Cell w [] ⟨b, 0, none⟩ v := by
  have hb : w.heap[b]? = some (.cells [v].toArray 59 (0, 0)) := hH.ok hw
  have h := cell_of_row w b 0 [v].toArray 59 (0, 0) hb
  exact ⟨by simpa using h, by simp⟩
theorem trd_own (hH : At H i (trdC v l)) (hw : Upd w0 w Cs H) (hs : l.length ≤ 4611686018427387904) : RSl Trd.enc 2 w [] v l :=
  RAt.up (RAt.own (enc := Trd.enc) (xs := l) hH rfl rfl (fun _ => rfl) hs) hw
theorem atDay (h1 : At H i (statsC b v)) (h2 : At H j (trdC v l)) (hs : l.length ≤ 4611686018427387904) (hq : ∀ t ∈ l, t.qty < 18446744073709551616) (hw : Upd w0 w Cs H) : Spec Go.Proofs.Try.prog 8 #[.pointer (some ⟨b, 0, none⟩)] w [] (fun u _ => u = .agg (barF l).enc.toArray) :=
  statsDay (cell_own h1 hw) (trd_own h2 hw hs) hq
theorem atBars {each : Int} (h1 : At H i (statsC b v)) (h2 : At H j (trdC v l)) (hs : l.length * 48 ≤ 140737488355328) (hq : ∀ t ∈ l, t.qty < 18446744073709551616) (hw : Upd w0 w Cs H) : Spec Go.Proofs.Try.prog 6 #[.pointer (some ⟨b, 0, none⟩), .int .i64 each] w [] (fun u F' => ∃ A c, u = .slice A (barsF each.toNat l).length c ∧ F' = [.own 30 6 (.slice A (barsF each.toNat l).length c) (barsF each.toNat l).length ((barsF each.toNat l).flatMap Bar.enc)]) :=
  statsBars (cell_own h1 hw) (trd_own h2 hw (by omega)) hq hs
theorem atMean (h1 : At H i (statsC b v)) (h2 : At H j (trdC v l)) (hs : l.length ≤ 4611686018427387904) (hq : ∀ t ∈ l, t.qty < 18446744073709551616) (hw : Upd w0 w Cs H) : Spec Go.Proofs.Try.prog 9 #[.pointer (some ⟨b, 0, none⟩)] w [] (fun u _ => u = .tuple #[.int .u64 ((meanF l).1 : Int), .bool (meanF l).2]) :=
  statsMean (cell_own h1 hw) (trd_own h2 hw hs) hq
theorem atTurnover (h1 : At H i (statsC b v)) (h2 : At H j (trdC v l)) (hs : l.length ≤ 4611686018427387904) (hq : ∀ t ∈ l, t.qty < 18446744073709551616) (hw : Upd w0 w Cs H) : Spec Go.Proofs.Try.prog 11 #[.pointer (some ⟨b, 0, none⟩)] w [] (fun u _ => u = .agg (mon (turnF l)).toArray) :=
  statsTurnover (cell_own h1 hw) (trd_own h2 hw hs) hq
end
end Go.Rx
/- The law ConsoleBars gives true: the cut lies within. -/
namespace Go.Rx
open Go Go.RowKit
set_option linter.unusedVariables false
set_option linter.unusedSimpArgs false
end Go.Rx
/- The law ConsoleBars gives true: the cut lies outside. -/
namespace Go.Rx
open Go Go.RowKit
set_option linter.unusedVariables false
set_option linter.unusedSimpArgs false
end Go.Rx
/- The row of bourselaw27.ConsoleBars. -/
namespace Go.Rx
open Go Go.RowKit Go.WideShapes
set_option linter.unusedVariables false
set_option linter.unusedSimpArgs false
def Event.dec (cs : List Value) : Event := ⟨numAt cs 0, numAt cs 1, numAt cs 2, numAt cs 3, numAt cs 4, numAt cs 5, numAt cs 6, numAt cs 7, numAt cs 8, numAt cs 9, numAt cs 10, numAt cs 11, numAt cs 12⟩
theorem Event.enc_dec (cs : List Value) (h : areSorts [.int .u64, .int .i64, .int .u64, .int .u64, .int .u64, .int .u32, .int .i64, .int .i64, .int .i64, .int .u64, .int .u64, .int .i64, .int .i64] cs = true) : (Event.dec cs).enc = cs := by
  obtain ⟨c0, r0, rfl, h0, h⟩ := areSorts_cons h
  obtain ⟨c1, r1, rfl, h1, h⟩ := areSorts_cons h
  obtain ⟨c2, r2, rfl, h2, h⟩ := areSorts_cons h
  obtain ⟨c3, r3, rfl, h3, h⟩ := areSorts_cons h
  obtain ⟨c4, r4, rfl, h4, h⟩ := areSorts_cons h
  obtain ⟨c5, r5, rfl, h5, h⟩ := areSorts_cons h
  obtain ⟨c6, r6, rfl, h6, h⟩ := areSorts_cons h
  obtain ⟨c7, r7, rfl, h7, h⟩ := areSorts_cons h
  obtain ⟨c8, r8, rfl, h8, h⟩ := areSorts_cons h
  obtain ⟨c9, r9, rfl, h9, h⟩ := areSorts_cons h
  obtain ⟨c10, r10, rfl, h10, h⟩ := areSorts_cons h
  obtain ⟨c11, r11, rfl, h11, h⟩ := areSorts_cons h
  obtain ⟨c12, r12, rfl, h12, h⟩ := areSorts_cons h
  obtain rfl := areSorts_nil h
  obtain ⟨n0, rfl⟩ := isSort_int h0
  obtain ⟨n1, rfl⟩ := isSort_int h1
  obtain ⟨n2, rfl⟩ := isSort_int h2
  obtain ⟨n3, rfl⟩ := isSort_int h3
  obtain ⟨n4, rfl⟩ := isSort_int h4
  obtain ⟨n5, rfl⟩ := isSort_int h5
  obtain ⟨n6, rfl⟩ := isSort_int h6
  obtain ⟨n7, rfl⟩ := isSort_int h7
  obtain ⟨n8, rfl⟩ := isSort_int h8
  obtain ⟨n9, rfl⟩ := isSort_int h9
  obtain ⟨n10, rfl⟩ := isSort_int h10
  obtain ⟨n11, rfl⟩ := isSort_int h11
  obtain ⟨n12, rfl⟩ := isSort_int h12
  rfl
theorem u64_bounds {z : Int} (h : (Lit.int .u64 z).wf = true) : 0 ≤ z ∧ z ≤ 18446744073709551615 := by
  unfold Lit.wf at h
  rw [Bool.and_eq_true] at h
  have e1 : IntKind.u64.min = 0 := rfl
  have e2 : IntKind.u64.max = 18446744073709551615 := rfl
  have h1 := of_decide_eq_true h.1
  have h2 := of_decide_eq_true h.2
  omega
end Go.Rx
namespace Go.Proofs.Ytonoamdonmbkpaa
open Go Go.RowKit Go.WideShapes Go.ChangeShapes Go.ChangeAt Go.Rx
set_option linter.unusedVariables false
theorem Try.own : ownKnob Try.prog.godebug = none := by kernel_rfl
theorem Try.laidOut : laidOutB Try.prog = true := by kernel_rfl
end Go.Proofs.Ytonoamdonmbkpaa
/- Numbers of four digits to the base 2^48, as the reference reckons: carried, times, plus. -/
namespace Go.Rx
open Go Go.RowKit
set_option linter.unusedVariables false
set_option linter.unusedSimpArgs false
def f4 (n : Nat) : List Nat := [n % 281474976710656, n / 281474976710656 % 281474976710656, n / 79228162514264337593543950336 % 281474976710656, n / 22300745198530623141535718272648361505980416 % 281474976710656]
def x4 (n : Nat) : List Value := u3 (f4 n)
def val4 (l : List Nat) : Nat := l[0]! + l[1]! * 281474976710656 + l[2]! * 79228162514264337593543950336 + l[3]! * 22300745198530623141535718272648361505980416
theorem f4_parts {n : Nat} (hn : n < 6277101735386680763835789423207666416102355444464034512896) : val4 (f4 n) = n := by
  show n % 281474976710656 + n / 281474976710656 % 281474976710656 * 281474976710656 + n / 79228162514264337593543950336 % 281474976710656 * 79228162514264337593543950336 + n / 22300745198530623141535718272648361505980416 % 281474976710656 * 22300745198530623141535718272648361505980416 = n
  omega
theorem f4_lt (n i : Nat) (hi : i < 4) : (f4 n)[i]! < 281474976710656 := by
  have : i = 0 ∨ i = 1 ∨ i = 2 ∨ i = 3 := by omega
  rcases this with rfl | rfl | rfl | rfl
  · show n % 281474976710656 < _; omega
  · show n / 281474976710656 % 281474976710656 < _; omega
  · show n / 79228162514264337593543950336 % 281474976710656 < _; omega
  · show n / 22300745198530623141535718272648361505980416 % 281474976710656 < _; omega
def kC (l : List Nat) : Nat → Nat
  | 0 => 0
  | j + 1 => (l[j]! + kC l j) / 281474976710656
theorem kC_succ (l : List Nat) (j : Nat) : kC l (j + 1) = (l[j]! + kC l j) / 281474976710656 := rfl
def kB (l : List Nat) (j : Nat) : Nat := l[j]! + kC l j
def kA (l : List Nat) (j : Nat) : Nat := (l[j]! + kC l j) % 281474976710656
def kO (l : List Nat) (i : Nat) : List Nat := [if 0 < i then kA l 0 else kB l 0, if 1 < i then kA l 1 else if i = 1 then kB l 1 else l[1]!, if 2 < i then kA l 2 else if i = 2 then kB l 2 else l[2]!, if i = 3 then kB l 3 else l[3]!]
def kH (l : List Nat) (i : Nat) : List Nat := (kO l i).set (i + 1) (kB l (i + 1))
theorem kO_len (l : List Nat) (i : Nat) : (kO l i).length = 4 := rfl
theorem kO_zero {l : List Nat} (h : l.length = 4) : kO l 0 = l := by
  match l, h with
  | [a, b, c, d], _ => rfl
theorem kO_at (l : List Nat) {i : Nat} (hi : i < 3) : (kO l i)[i]! = kB l i := by
  have : i = 0 ∨ i = 1 ∨ i = 2 := by omega
  rcases this with rfl | rfl | rfl <;> simp [kO]
theorem kO_next (l : List Nat) {i : Nat} (hi : i < 3) : (kO l i)[i + 1]! = l[i + 1]! := by
  have : i = 0 ∨ i = 1 ∨ i = 2 := by omega
  rcases this with rfl | rfl | rfl <;> simp [kO]
theorem kH_at (l : List Nat) {i : Nat} (hi : i < 3) : (kH l i)[i]! = kB l i := by
  have : i = 0 ∨ i = 1 ∨ i = 2 := by omega
  rcases this with rfl | rfl | rfl <;> simp [kH, kO]
theorem kH_set (l : List Nat) {i : Nat} (hi : i < 3) : (kH l i).set i (kA l i) = kO l (i + 1) := by
  have : i = 0 ∨ i = 1 ∨ i = 2 := by omega
  rcases this with rfl | rfl | rfl <;> simp [kH, kO]
theorem x4_eq {a b c d n : Nat} (ha : a = n % 281474976710656) (hb : b = n / 281474976710656 % 281474976710656) (hc : c = n / 79228162514264337593543950336 % 281474976710656) (hd : d = n / 22300745198530623141535718272648361505980416 % 281474976710656) : [a, b, c, d] = f4 n := by
  subst ha hb hc hd
  rfl
theorem kO_end {l : List Nat} (hv : val4 l < 6277101735386680763835789423207666416102355444464034512896) : kO l 3 = f4 (val4 l) := by
  have h0 : kO l 3 = [kA l 0, kA l 1, kA l 2, kB l 3] := by simp [kO]
  have c0 : kC l 0 = 0 := by unfold kC; rfl
  have c1 := kC_succ l 0
  have c2 := kC_succ l 1
  have c3 := kC_succ l 2
  rw [Nat.zero_add] at c1
  rw [show 1 + 1 = 2 from rfl] at c2
  rw [show 2 + 1 = 3 from rfl] at c3
  rw [h0]
  unfold kA kB val4 at *
  rw [c0] at c1 ⊢
  generalize l[0]! = a at *
  generalize l[1]! = b at *
  generalize l[2]! = c at *
  generalize l[3]! = d at *
  generalize kC l 1 = k1 at *
  generalize kC l 2 = k2 at *
  generalize kC l 3 = k3 at *
  clear h0 c0
  refine x4_eq ?_ ?_ ?_ ?_ <;> omega
set_option maxHeartbeats 1000000 in
set_option maxRecDepth 100000 in
theorem wideCarried {w : World} {l : List Nat} (hl : l.length = 4) (hs : ∀ j, j < 4 → l[j]! < 9223372036854775808) (hv : val4 l < 6277101735386680763835789423207666416102355444464034512896) : Spec Go.Proofs.Try.prog 47 #[.agg (u3 l).toArray] w [] (fun u _ => u = .agg (x4 (val4 l)).toArray) := by
  have hk : ∀ j, kC l j < 9223372036854775808 := by
    intro j
    induction j with
    | zero => show 0 < _; omega
    | succ j ih =>
      rw [kC_succ]
      by_cases hj : j < 4
      · have := hs j hj; omega
      · have : l[j]! = 0 := by rw [getElem!_neg l j (by omega)]; rfl
        omega
  rw [x4, ← kO_end hv]
  refine Spec.enter (fn := Go.Proofs.Try.f47) (n := 27) [.agg (u3 l).toArray] Go.Proofs.Try.func47 (by kernel_rfl) rfl Go.Proofs.Try.ntmps47 Go.Proofs.Try.results47 rfl (Own.nil _) ?_
  refine JC.rs ?_
  refine Seq.box (cs := u3 l) (k := ?_); intro b1
  refine Seq.alloc (cs := [_, _, _, _]) (hz := z.bourseref27_wide) (k := ?_); intro b2
  refine Seq.nil ?_
  refine JC.seq ?_
  refine JC.rs ?_
  refine Seq.p rfl Ev.assign ?_
  refine Seq.nil ?_
  refine JC.blk ?_
  refine JC.loop (α := Nat) (I := fun i e1 H1 => Has [3, 4, 5, 6, 7, 8, 9, 10, 11, 12, 13, 14, 15, 16, 17, 18, 19, 20, 21, 22, 23, 24, 25] [(3, .int .i64 (i : Int))] _ e1 ∧ H1 = [_, .box b1 80 (u3 (kO l i))] ∧ i ≤ 3) (μ := fun i => 3 - i) 0 ⟨Has.mk Off.refl (allLook_cons (by repeat (first | exact Look.here | apply Look.there (hne := rfl) | exact Look.const | apply Look.mix rfl | exact Look.arg0 | apply Look.args | exact Look.func)) allLook_nil), by rw [kO_zero hl], by omega⟩ ?_
  rintro i _ _ ⟨⟨u, rfl⟩, rfl, hi⟩; dsimp only [setL]
  refine JC.seq ?_
  refine JC.rs ?_
  refine Seq.p rfl Ev.move ?_
  refine Seq.p rfl Ev.lt ?_
  refine Seq.nil ?_
  first | refine JC.c (ht := fun c5 => ?_) (hf := fun c5 => ?_) | refine JC.cb (ht := fun c5 => ?_) (hf := fun c5 => ?_)
  · -- then_t5
    have hi2 : i < 3 := by omega
    have hsi := hs (i + 1) (by omega)
    have hsj := hs i (by omega)
    have hki := hk i
    have hkn := kC_succ l i
    refine JC.skip ?_
    refine JC.seq ?_
    refine JC.blk ?_
    refine JC.asE 1 mixed ?_
    refine Any.p 0 rfl (by kernel_rfl) (by kernel_rfl) (by kernel_rfl) rfl Ev.move ?_
    refine Any.p 1 rfl (by kernel_rfl) (by kernel_rfl) (by kernel_rfl) rfl (Ev.as (v' := .int .i64 ((i + 1 : Nat) : Int)) (by rw [Int.natCast_add]) Ev.add) ?_
    refine Any.p 2 rfl (by kernel_rfl) (by kernel_rfl) (by kernel_rfl) rfl Ev.move ?_
    refine Any.p 3 rfl (by kernel_rfl) (by kernel_rfl) (by kernel_rfl) rfl (Ev.as (v' := .int .i64 ((i + 1 : Nat) : Int)) (by rw [Int.natCast_add]) Ev.add) ?_
    refine Any.p 4 rfl (by kernel_rfl) (by kernel_rfl) (by kernel_rfl) rfl (Ev.iaArrN ar.bourseref27_wide (i := i + 1)) ?_
    refine Any.p 6 rfl (by kernel_rfl) (by kernel_rfl) (by kernel_rfl) rfl Ev.move ?_
    refine Any.p 7 rfl (by kernel_rfl) (by kernel_rfl) (by kernel_rfl) rfl (Ev.iaArrN ar.bourseref27_wide (i := i)) ?_
    refine Any.two 5 8 rfl rfl (by kernel_rfl) ?_ ?_
    · -- first 5
      refine Seq.p rfl (Ev.as (v' := .int .u64 ((l[i + 1]! : Nat) : Int)) (by rw [kO_next l hi2]) (Ev.ldB sc.uint64 (hv := u3_get (by rw [kO_len]; omega)))) ?_
      refine Seq.nil ⟨(by repeat (first | exact Part.refl _ | exact Part.nil _ | apply Part.here | apply Part.skip)), ?_⟩
      refine Any.one 8 rfl (by kernel_rfl) ?_
      refine Seq.p rfl (Ev.as (v' := .int .u64 ((kB l i : Nat) : Int)) (by rw [kO_at l hi2]) (Ev.ldB sc.uint64 (hv := u3_get (by rw [kO_len]; omega)))) ?_
      refine Seq.nil ⟨(by repeat (first | exact Part.refl _ | exact Part.nil _ | apply Part.here | apply Part.skip)), ?_⟩
      refine Any.p 9 rfl (by kernel_rfl) (by kernel_rfl) (by kernel_rfl) rfl (Ev.shrNU 281474976710656) ?_
      refine Any.p 10 rfl (by kernel_rfl) (by kernel_rfl) (by kernel_rfl) rfl (Ev.addNU (a := l[i + 1]!) (b := kB l i / 281474976710656) (h := by unfold kB; omega)) ?_
      refine Any.p 11 rfl (by kernel_rfl) (by kernel_rfl) (by kernel_rfl) rfl (Ev.iaArrN ar.bourseref27_wide (i := i + 1)) ?_
      refine Any.one 12 rfl (by kernel_rfl) ?_
      refine Seq.storeTo (cs' := u3 (kH l i)) sz.uint64 (hfit := by rw [u3_len, kO_len]; show 0 + (i + 1) * 1 + 1 ≤ 4; omega) (hcs := by rw [kH, ← u3_set _ (by rw [kO_len]; omega)]; rfl) (k := ?_)
      refine Seq.nil ⟨(by repeat (first | exact Part.refl _ | exact Part.nil _ | apply Part.here | apply Part.skip)), ?_⟩
      refine Any.done (by kernel_rfl) ?_
      refine JC.reg ?_
      refine Seq.p rfl Ev.move ?_
      refine Seq.p rfl Ev.move ?_
      refine Seq.p rfl (Ev.iaArrN ar.bourseref27_wide (i := i)) ?_
      refine Seq.p rfl (Ev.as (v' := .int .u64 ((kB l i : Nat) : Int)) (by rw [kH_at l hi2]) (Ev.ldB sc.uint64 (hv := u3_get (by rw [kH, List.length_set, kO_len]; omega)))) ?_
      refine Seq.p rfl (Ev.remNU (a := kB l i) (b := 281474976710656)) ?_
      refine Seq.p rfl (Ev.iaArrN ar.bourseref27_wide (i := i)) ?_
      refine Seq.storeTo (cs' := u3 (kO l (i + 1))) sz.uint64 (hfit := by rw [u3_len, kH, List.length_set, kO_len]; show 0 + i * 1 + 1 ≤ 4; omega) (hcs := by rw [← kH_set l hi2, ← u3_set _ (by rw [kH, List.length_set, kO_len]; omega)]; rfl) (k := ?_)
      refine Seq.nil ?_
      refine JC.reg ?_
      refine Seq.p rfl Ev.move ?_
      refine Seq.p rfl (by first | exact Ev.inc | exact Ev.add) ?_
      refine Seq.p rfl Ev.assign ?_
      refine Seq.nil ?_
      exact ⟨i + 1, _, Part.refl _, ⟨Has.mk (by repeat (first | refine Off.upd ?_ rfl | exact Off.mix | refine Off.mix2 ?_ rfl | exact Off.refl)) (allLook_cons (by repeat (first | exact Look.here | apply Look.there (hne := rfl) | exact Look.const | apply Look.mix rfl | exact Look.arg0 | apply Look.args | exact Look.func)) allLook_nil), rfl, by omega⟩, by omega⟩
    · -- first 8
      refine Seq.p rfl (Ev.as (v' := .int .u64 ((kB l i : Nat) : Int)) (by rw [kO_at l hi2]) (Ev.ldB sc.uint64 (hv := u3_get (by rw [kO_len]; omega)))) ?_
      refine Seq.nil ⟨(by repeat (first | exact Part.refl _ | exact Part.nil _ | apply Part.here | apply Part.skip)), ?_⟩
      refine Any.p 9 rfl (by kernel_rfl) (by kernel_rfl) (by kernel_rfl) rfl (Ev.shrNU 281474976710656) ?_
      refine Any.one 5 rfl (by kernel_rfl) ?_
      refine Seq.p rfl (Ev.as (v' := .int .u64 ((l[i + 1]! : Nat) : Int)) (by rw [kO_next l hi2]) (Ev.ldB sc.uint64 (hv := u3_get (by rw [kO_len]; omega)))) ?_
      refine Seq.nil ⟨(by repeat (first | exact Part.refl _ | exact Part.nil _ | apply Part.here | apply Part.skip)), ?_⟩
      refine Any.p 10 rfl (by kernel_rfl) (by kernel_rfl) (by kernel_rfl) rfl (Ev.addNU (a := l[i + 1]!) (b := kB l i / 281474976710656) (h := by unfold kB; omega)) ?_
      refine Any.p 11 rfl (by kernel_rfl) (by kernel_rfl) (by kernel_rfl) rfl (Ev.iaArrN ar.bourseref27_wide (i := i + 1)) ?_
      refine Any.one 12 rfl (by kernel_rfl) ?_
      refine Seq.storeTo (cs' := u3 (kH l i)) sz.uint64 (hfit := by rw [u3_len, kO_len]; show 0 + (i + 1) * 1 + 1 ≤ 4; omega) (hcs := by rw [kH, ← u3_set _ (by rw [kO_len]; omega)]; rfl) (k := ?_)
      refine Seq.nil ⟨(by repeat (first | exact Part.refl _ | exact Part.nil _ | apply Part.here | apply Part.skip)), ?_⟩
      refine Any.done (by kernel_rfl) ?_
      refine JC.reg ?_
      refine Seq.p rfl Ev.move ?_
      refine Seq.p rfl Ev.move ?_
      refine Seq.p rfl (Ev.iaArrN ar.bourseref27_wide (i := i)) ?_
      refine Seq.p rfl (Ev.as (v' := .int .u64 ((kB l i : Nat) : Int)) (by rw [kH_at l hi2]) (Ev.ldB sc.uint64 (hv := u3_get (by rw [kH, List.length_set, kO_len]; omega)))) ?_
      refine Seq.p rfl (Ev.remNU (a := kB l i) (b := 281474976710656)) ?_
      refine Seq.p rfl (Ev.iaArrN ar.bourseref27_wide (i := i)) ?_
      refine Seq.storeTo (cs' := u3 (kO l (i + 1))) sz.uint64 (hfit := by rw [u3_len, kH, List.length_set, kO_len]; show 0 + i * 1 + 1 ≤ 4; omega) (hcs := by rw [← kH_set l hi2, ← u3_set _ (by rw [kH, List.length_set, kO_len]; omega)]; rfl) (k := ?_)
      refine Seq.nil ?_
      refine JC.reg ?_
      refine Seq.p rfl Ev.move ?_
      refine Seq.p rfl (by first | exact Ev.inc | exact Ev.add) ?_
      refine Seq.p rfl Ev.assign ?_
      refine Seq.nil ?_
      exact ⟨i + 1, _, Part.refl _, ⟨Has.mk (by repeat (first | refine Off.upd ?_ rfl | exact Off.mix | refine Off.mix2 ?_ rfl | exact Off.refl)) (allLook_cons (by repeat (first | exact Look.here | apply Look.there (hne := rfl) | exact Look.const | apply Look.mix rfl | exact Look.arg0 | apply Look.args | exact Look.func)) allLook_nil), rfl, by omega⟩, by omega⟩
  · -- else_t5
    obtain rfl : i = 3 := by omega
    refine JC.exit ?_ -- 0
    refine JC.rs ?_
    refine Seq.p rfl (Ev.ldBA (cs := u3 (kO l 3)) ag.bourseref27_wide) ?_
    refine Seq.storeTo (cs' := u3 (kO l 3)) sz.bourseref27_wide (hH := At.z) (hfit := Nat.le_of_ble_eq_true rfl) (hcs := rfl) (k := ?_)
    refine Seq.nil ?_
    refine JC.ret ?_
    show retQ _ _ _ _ _ _ _ _
    refine retB1 ag.bourseref27_wide (cs := u3 (kO l 3)) (hp := Part.nil _) (hpost := ?_)
    rfl
end Go.Rx
/- Numbers of four digits to the base 2^48: times, plus. -/
namespace Go.Rx
open Go Go.RowKit
set_option linter.unusedVariables false
set_option linter.unusedSimpArgs false
def mO (l : List Nat) (m i : Nat) : List Nat := [if 0 < i then l[0]! * m else l[0]!, if 1 < i then l[1]! * m else l[1]!, if 2 < i then l[2]! * m else l[2]!, if 3 < i then l[3]! * m else l[3]!]
theorem mO_len (l : List Nat) (m i : Nat) : (mO l m i).length = 4 := rfl
theorem mO_zero {l : List Nat} (m : Nat) (h : l.length = 4) : mO l m 0 = l := by
  match l, h with
  | [a, b, c, d], _ => rfl
theorem mO_at (l : List Nat) (m : Nat) {i : Nat} (hi : i < 4) : (mO l m i)[i]! = l[i]! := by
  have : i = 0 ∨ i = 1 ∨ i = 2 ∨ i = 3 := by omega
  rcases this with rfl | rfl | rfl | rfl <;> simp [mO]
theorem mO_set (l : List Nat) (m : Nat) {i : Nat} (hi : i < 4) : (mO l m i).set i (l[i]! * m) = mO l m (i + 1) := by
  have : i = 0 ∨ i = 1 ∨ i = 2 ∨ i = 3 := by omega
  rcases this with rfl | rfl | rfl | rfl <;> simp [mO]
theorem mO_val (l : List Nat) (m : Nat) : val4 (mO l m 4) = val4 l * m := by
  have e : mO l m 4 = [l[0]! * m, l[1]! * m, l[2]! * m, l[3]! * m] := by simp [mO]
  rw [e]
  unfold val4
  rw [Nat.add_mul, Nat.add_mul, Nat.add_mul, Nat.mul_right_comm _ _ m, Nat.mul_right_comm _ _ m, Nat.mul_right_comm _ _ m]
  rfl
set_option maxHeartbeats 1000000 in
set_option maxRecDepth 100000 in
theorem wideTimes {w : World} {n m : Nat} (hm : m ≤ 32767) (hn : n < 6277101735386680763835789423207666416102355444464034512896) (hnm : n * m < 6277101735386680763835789423207666416102355444464034512896) : Spec Go.Proofs.Try.prog 35 #[.agg (x4 n).toArray, .int .u64 m] w [] (fun u _ => u = .agg (x4 (n * m)).toArray) := by
  have hd := f4_lt n
  have hp := f4_parts hn
  obtain ⟨l, hle⟩ : ∃ l, l = f4 n := ⟨_, rfl⟩
  have hl : l.length = 4 := by rw [hle]; rfl
  rw [← hle] at hd hp
  have hv : val4 (mO l m 4) = n * m := by rw [mO_val, hp]
  have hdm : ∀ j, j < 4 → l[j]! * m ≤ 281474976710656 * 32767 := fun j hj => Nat.mul_le_mul (Nat.le_of_lt (hd j hj)) hm
  have hms : ∀ j, j < 4 → (mO l m 4)[j]! < 9223372036854775808 := by
    intro j hj
    have h9 := hdm j hj
    have : j = 0 ∨ j = 1 ∨ j = 2 ∨ j = 3 := by omega
    rcases this with rfl | rfl | rfl | rfl <;> simp [mO] at h9 ⊢ <;> omega
  have hw : x4 n = u3 l := by rw [hle]; rfl
  rw [hw]
  refine Spec.enter (fn := Go.Proofs.Try.f35) (n := 19) [.agg (u3 l).toArray, .int .u64 m] Go.Proofs.Try.func35 (by kernel_rfl) rfl Go.Proofs.Try.ntmps35 Go.Proofs.Try.results35 rfl (Own.nil _) ?_
  refine JC.rs ?_
  refine Seq.box (cs := u3 l) (k := ?_); intro b2
  refine Seq.alloc (cs := [_, _, _, _]) (hz := z.bourseref27_wide) (k := ?_); intro b4
  refine Seq.nil ?_
  refine JC.seq ?_
  refine JC.rs ?_
  refine Seq.p rfl Ev.assign ?_
  refine Seq.nil ?_
  refine JC.blk ?_
  refine JC.loop (α := Nat) (I := fun i e1 H1 => Has [5, 6, 7, 8, 9, 10, 11, 12, 13, 14, 15, 16] [(5, .int .i64 (i : Int))] _ e1 ∧ H1 = [_, .box b2 80 (u3 (mO l m i))] ∧ i ≤ 4) (μ := fun i => 4 - i) 0 ⟨Has.mk Off.refl (allLook_cons (by repeat (first | exact Look.here | apply Look.there (hne := rfl) | exact Look.const | apply Look.mix rfl | exact Look.arg0 | apply Look.args | exact Look.func)) allLook_nil), by rw [mO_zero m hl], by omega⟩ ?_
  rintro i _ _ ⟨⟨u, rfl⟩, rfl, hi⟩; dsimp only [setL]
  refine JC.seq ?_
  refine JC.rs ?_
  refine Seq.p rfl Ev.move ?_
  refine Seq.p rfl Ev.lt ?_
  refine Seq.nil ?_
  first | refine JC.c (ht := fun c7 => ?_) (hf := fun c7 => ?_) | refine JC.cb (ht := fun c7 => ?_) (hf := fun c7 => ?_)
  · -- then_t7
    have hi2 : i < 4 := by omega
    have hdi := hdm i hi2
    refine JC.skip ?_
    refine JC.seq ?_
    refine JC.blk ?_
    refine JC.reg ?_
    refine Seq.p rfl Ev.move ?_
    refine Seq.p rfl Ev.move ?_
    refine Seq.p rfl (Ev.iaArrN ar.bourseref27_wide (i := i)) ?_
    refine Seq.p rfl (Ev.as (v' := .int .u64 ((l[i]! : Nat) : Int)) (by rw [mO_at l m hi2]) (Ev.ldB sc.uint64 (hv := u3_get (by rw [mO_len]; omega)))) ?_
    refine Seq.p rfl Ev.move ?_
    refine Seq.p rfl (Ev.mulNU (a := l[i]!) (b := m)) ?_
    refine Seq.p rfl (Ev.iaArrN ar.bourseref27_wide (i := i)) ?_
    refine Seq.storeTo (cs' := u3 (mO l m (i + 1))) sz.uint64 (hH := At.s At.z) (hfit := by rw [u3_len, mO_len]; show 0 + i * 1 + 1 ≤ 4; omega) (hcs := by rw [← mO_set l m hi2, ← u3_set _ (by rw [mO_len]; omega)]; rfl) (k := ?_)
    refine Seq.nil ?_
    refine JC.reg ?_
    refine Seq.p rfl Ev.move ?_
    refine Seq.p rfl (by first | exact Ev.inc | exact Ev.add) ?_
    refine Seq.p rfl Ev.assign ?_
    refine Seq.nil ?_
    exact ⟨i + 1, _, Part.refl _, ⟨Has.mk (by repeat (first | refine Off.upd ?_ rfl | exact Off.mix | refine Off.mix2 ?_ rfl | exact Off.refl)) (allLook_cons (by repeat (first | exact Look.here | apply Look.there (hne := rfl) | exact Look.const | apply Look.mix rfl | exact Look.arg0 | apply Look.args | exact Look.func)) allLook_nil), rfl, by omega⟩, by omega⟩
  · -- else_t7
    obtain rfl : i = 4 := by omega
    refine JC.exit ?_ -- 0
    refine JC.rs ?_
    refine Seq.p rfl (Ev.ldBA (cs := u3 (mO l m 4)) ag.bourseref27_wide) ?_
    refine Seq.callP rfl (fun w hw => (hv ▸ wideCarried (l := mO l m 4) rfl hms (by omega))) ?_
    refine Seq.storeTo (cs' := x4 (n * m)) sz.bourseref27_wide (hH := At.z) (hfit := Nat.le_of_ble_eq_true rfl) (hcs := rfl) (k := ?_)
    refine Seq.nil ?_
    refine JC.ret ?_
    show retQ _ _ _ _ _ _ _ _
    refine retB1 ag.bourseref27_wide (cs := x4 (n * m)) (hp := Part.nil _) (hpost := ?_)
    rfl
theorem plus_parts {p q : Nat} (hp : p < 4294967296) (hq : q < 18446744073709551616) : q % 4294967296 * p ≤ 18446744065119617025 ∧ q / 4294967296 * p ≤ 18446744065119617025 ∧ q % 4294967296 * p + q / 4294967296 * p * 4294967296 = p * q := by
  have h1 : q % 4294967296 * p ≤ 4294967295 * 4294967295 := Nat.mul_le_mul (by omega) (by omega)
  have h2 : q / 4294967296 * p ≤ 4294967295 * 4294967295 := Nat.mul_le_mul (by omega) (by omega)
  refine ⟨h1, h2, ?_⟩
  have h3 : p * q = (q % 4294967296 + q / 4294967296 * 4294967296) * p := by
    rw [show q % 4294967296 + q / 4294967296 * 4294967296 = q by omega, Nat.mul_comm]
  rw [h3, Nat.add_mul, Nat.mul_right_comm]
set_option maxHeartbeats 1000000 in
set_option maxRecDepth 100000 in
theorem widePlus {w : World} {n p q : Nat} (hp : p < 4294967296) (hq : q < 18446744073709551616) (hn : n + p * q < 6277101735386680763835789423207666416102355444464034512896) : Spec Go.Proofs.Try.prog 32 #[.agg (x4 n).toArray, .int .u32 p, .int .u64 q] w [] (fun u _ => u = .agg (x4 (n + p * q)).toArray) := by
  have hd := f4_lt n
  have hpt := f4_parts (n := n) (by omega)
  obtain ⟨h1, h2, h3⟩ := plus_parts hp hq
  obtain ⟨l, hle⟩ : ∃ l, l = f4 n := ⟨_, rfl⟩
  have hl : l.length = 4 := by rw [hle]; rfl
  rw [← hle] at hd hpt
  have d0 := hd 0 (by omega); have d1 := hd 1 (by omega); have d2 := hd 2 (by omega); have d3 := hd 3 (by omega)
  have hw : x4 n = u3 l := by rw [hle]; rfl
  rw [hw]
  obtain ⟨lo, hlo⟩ : ∃ x, x = q % 4294967296 * p := ⟨_, rfl⟩
  obtain ⟨hh, hhi⟩ : ∃ x, x = q / 4294967296 * p := ⟨_, rfl⟩
  rw [← hlo] at h1 h3
  rw [← hhi] at h2 h3
  have hv : val4 [l[0]! + lo % 281474976710656 + hh % 65536 * 4294967296, l[1]! + lo / 281474976710656 + hh / 65536, l[2]!, l[3]!] = n + p * q := by
    rw [← h3, ← hpt]
    show _ + _ + _ + _ = _
    unfold val4
    simp
    omega
  refine Spec.enter (fn := Go.Proofs.Try.f32) (n := 40) [.agg (u3 l).toArray, .int .u32 p, .int .u64 q] Go.Proofs.Try.func32 (by kernel_rfl) rfl Go.Proofs.Try.ntmps32 Go.Proofs.Try.results32 rfl (Own.nil _) ?_
  refine JC.rs ?_
  refine Seq.box (cs := u3 l) (k := ?_); intro b3
  refine Seq.alloc (cs := [_, _, _, _]) (hz := z.bourseref27_wide) (k := ?_); intro b6
  refine Seq.nil ?_
  refine JC.rs ?_
  refine Seq.p rfl Ev.move ?_
  refine Seq.p rfl (Ev.remNU (a := q) (b := 4294967296)) ?_
  refine Seq.p rfl Ev.move ?_
  refine Seq.p rfl (Ev.convU64 it.uint32 it.uint64 (h := by omega)) ?_
  refine Seq.p rfl (Ev.as (v' := .int .u64 ((lo : Nat) : Int)) (by rw [hlo]) (Ev.mulNU (a := q % 4294967296) (b := p))) ?_
  refine Seq.p rfl Ev.move ?_
  refine Seq.p rfl (Ev.shrNU (a := q) 4294967296) ?_
  refine Seq.p rfl Ev.move ?_
  refine Seq.p rfl (Ev.convU64 it.uint32 it.uint64 (h := by omega)) ?_
  refine Seq.p rfl (Ev.as (v' := .int .u64 ((hh : Nat) : Int)) (by rw [hhi]) (Ev.mulNU (a := q / 4294967296) (b := p))) ?_
  refine Seq.p rfl Ev.assign ?_
  refine Seq.p rfl Ev.assign ?_
  refine Seq.nil ?_
  refine JC.rs ?_
  refine Seq.p rfl (Ev.iaArrN ar.bourseref27_wide (i := 0)) ?_
  refine Seq.p rfl (Ev.ldB sc.uint64 (hv := u3_get (i := 0) (by omega))) ?_
  refine Seq.p rfl Ev.move ?_
  refine Seq.p rfl (Ev.remNU (a := lo) (b := 281474976710656)) ?_
  refine Seq.p rfl (Ev.addNU (a := l[0]!) (b := lo % 281474976710656)) ?_
  refine Seq.p rfl Ev.move ?_
  refine Seq.p rfl (Ev.remNU (a := hh) (b := 65536)) ?_
  refine Seq.p rfl (Ev.shlB (r := ((hh % 65536 * 4294967296 : Nat) : Int)) (hr := by show IntKind.u64.wrap (((hh % 65536 : Nat) : Int) * 4294967296) = _; rw [wrap_u64 _ (by omega), Int.natCast_mul]; rfl)) ?_
  refine Seq.p rfl (Ev.addNU (a := l[0]! + lo % 281474976710656) (b := hh % 65536 * 4294967296)) ?_
  refine Seq.p rfl (Ev.iaArrN ar.bourseref27_wide (i := 0)) ?_
  refine Seq.storeTo (cs' := u3 (l.set 0 (l[0]! + lo % 281474976710656 + hh % 65536 * 4294967296))) sz.uint64 (hH := At.s At.z) (hfit := by rw [u3_len]; show 0 + 0 * 1 + 1 ≤ _; omega) (hcs := by rw [← u3_set _ (by omega)]; rfl) (k := ?_)
  refine Seq.nil ?_
  refine JC.rs ?_
  refine Seq.p rfl (Ev.iaArrN ar.bourseref27_wide (i := 1)) ?_
  refine Seq.p rfl (Ev.as (v' := .int .u64 ((l[1]! : Nat) : Int)) (congrArg (fun x : Nat => Value.int .u64 (x : Int)) (show (l.set 0 (l[0]! + lo % 281474976710656 + hh % 65536 * 4294967296))[1]! = l[1]! by simp)) (Ev.ldB sc.uint64 (hv := u3_get (l := l.set 0 (l[0]! + lo % 281474976710656 + hh % 65536 * 4294967296)) (i := 1) (by rw [List.length_set]; omega)))) ?_
  refine Seq.p rfl Ev.move ?_
  refine Seq.p rfl (Ev.shrNU (a := lo) 281474976710656) ?_
  refine Seq.p rfl (Ev.addNU (a := l[1]!) (b := lo / 281474976710656)) ?_
  refine Seq.p rfl Ev.move ?_
  refine Seq.p rfl (Ev.shrNU (a := hh) 65536) ?_
  refine Seq.p rfl (Ev.addNU (a := l[1]! + lo / 281474976710656) (b := hh / 65536)) ?_
  refine Seq.p rfl (Ev.iaArrN ar.bourseref27_wide (i := 1)) ?_
  refine Seq.storeTo (cs' := u3 [l[0]! + lo % 281474976710656 + hh % 65536 * 4294967296, l[1]! + lo / 281474976710656 + hh / 65536, l[2]!, l[3]!]) sz.uint64 (hH := At.s At.z) (hfit := by rw [u3_len, List.length_set]; show 0 + 1 * 1 + 1 ≤ _; omega) (hcs := (u3_set (l := l.set 0 (l[0]! + lo % 281474976710656 + hh % 65536 * 4294967296)) (i := 1) (l[1]! + lo / 281474976710656 + hh / 65536) (by rw [List.length_set]; omega)).trans (by congr 1; match l, hl with | [a, b, c, d], _ => rfl)) (k := ?_)
  refine Seq.nil ?_
  refine JC.rs ?_
  refine Seq.p rfl (Ev.ldBA (cs := u3 [l[0]! + lo % 281474976710656 + hh % 65536 * 4294967296, l[1]! + lo / 281474976710656 + hh / 65536, l[2]!, l[3]!]) ag.bourseref27_wide) ?_
  refine Seq.callP rfl (fun w hw => (hv ▸ wideCarried (l := [l[0]! + lo % 281474976710656 + hh % 65536 * 4294967296, l[1]! + lo / 281474976710656 + hh / 65536, l[2]!, l[3]!]) rfl (by intro j hj; have : j = 0 ∨ j = 1 ∨ j = 2 ∨ j = 3 := by omega;;  rcases this with rfl | rfl | rfl | rfl <;> simp <;> simp at d0 d1 d2 d3 <;> omega) (by omega))) ?_
  refine Seq.storeTo (cs' := x4 (n + p * q)) sz.bourseref27_wide (hH := At.z) (hfit := Nat.le_of_ble_eq_true rfl) (hcs := rfl) (k := ?_)
  refine Seq.nil ?_
  refine JC.ret ?_
  show retQ _ _ _ _ _ _ _ _
  refine retB1 ag.bourseref27_wide (cs := x4 (n + p * q)) (hp := Part.nil _) (hpost := ?_)
  rfl
end Go.Rx
/- Numbers of four digits to the base 2^48: compared, subtracted. -/
namespace Go.Rx
open Go Go.RowKit
set_option linter.unusedVariables false
set_option linter.unusedSimpArgs false
set_option maxHeartbeats 1000000 in
set_option maxRecDepth 100000 in
theorem wideCompare {w : World} {n m : Nat} (hn : n < 6277101735386680763835789423207666416102355444464034512896) (hm : m < 6277101735386680763835789423207666416102355444464034512896) : Spec Go.Proofs.Try.prog 34 #[.agg (x4 n).toArray, .agg (x4 m).toArray] w [] (fun u _ => u = .int .i64 (cmpF n m)) := by
  have hd := f4_lt n
  have he := f4_lt m
  have hx0 := f4_parts hn
  have hy0 := f4_parts hm
  obtain ⟨x, hx⟩ : ∃ x, x = f4 n := ⟨_, rfl⟩
  obtain ⟨y, hy⟩ : ∃ x, x = f4 m := ⟨_, rfl⟩
  have hxl : x.length = 4 := by rw [hx]; rfl
  have hyl : y.length = 4 := by rw [hy]; rfl
  have hw : x4 n = u3 x := by rw [hx]; rfl
  have hv : x4 m = u3 y := by rw [hy]; rfl
  rw [← hx] at hd hx0
  rw [← hy] at he hy0
  unfold val4 at hx0 hy0
  have d0 := hd 0 (by omega); have d1 := hd 1 (by omega); have d2 := hd 2 (by omega); have d3 := hd 3 (by omega)
  have e0 := he 0 (by omega); have e1 := he 1 (by omega); have e2 := he 2 (by omega); have e3 := he 3 (by omega)
  rw [hw, hv]
  refine Spec.enter (fn := Go.Proofs.Try.f34) (n := 24) [.agg (u3 x).toArray, .agg (u3 y).toArray] Go.Proofs.Try.func34 (by kernel_rfl) rfl Go.Proofs.Try.ntmps34 Go.Proofs.Try.results34 rfl (Own.nil _) ?_
  refine JC.rs ?_
  refine Seq.box (cs := u3 x) (k := ?_); intro b2
  refine Seq.box (cs := u3 y) (k := ?_); intro b3
  refine Seq.p rfl Ev.assign ?_
  refine Seq.nil ?_
  refine JC.seq ?_
  refine JC.rs ?_
  refine Seq.p rfl Ev.assign ?_
  refine Seq.nil ?_
  refine JC.blk ?_
  refine JC.loop (α := Nat) (I := fun q e1 H1 => Has [4, 5, 6, 7, 8, 9, 10, 11, 12, 13, 14, 15, 16, 17, 18, 19, 20, 21, 22, 23] [(5, .int .i64 ((q : Int) - 1))] _ e1 ∧ H1 = [.box b3 80 (u3 y), .box b2 80 (u3 x)] ∧ q ≤ 4 ∧ ∀ j, q ≤ j → j < 4 → x[j]! = y[j]!) (μ := fun q => q) 4 ⟨Has.mk Off.refl (allLook_cons (by repeat (first | exact Look.here | apply Look.there (hne := rfl) | exact Look.const | apply Look.mix rfl | exact Look.arg0 | apply Look.args | exact Look.func)) allLook_nil), rfl, by omega, fun j h1 h2 => by omega⟩ ?_
  rintro q _ _ ⟨⟨u, rfl⟩, rfl, hq, hsame⟩; dsimp only [setL]
  refine JC.seq ?_
  refine JC.rs ?_
  refine Seq.p rfl Ev.move ?_
  refine Seq.p rfl Ev.ge ?_
  refine Seq.nil ?_
  first | refine JC.c (ht := fun c7 => ?_) (hf := fun c7 => ?_) | refine JC.cb (ht := fun c7 => ?_) (hf := fun c7 => ?_)
  · -- then_t7
    obtain ⟨p, rfl⟩ : ∃ p, q = p + 1 := ⟨q - 1, by omega⟩
    have hpi : ((p + 1 : Nat) : Int) - 1 = (p : Int) := by omega
    rw [hpi]
    have hp3 : p < 4 := by omega
    have hcmp : x[p]! < y[p]! → n < m := by
      intro h
      have : p = 0 ∨ p = 1 ∨ p = 2 ∨ p = 3 := by omega
      rcases this with rfl | rfl | rfl | rfl
      · have h1 := hsame 1 (by omega) (by omega); have h2 := hsame 2 (by omega) (by omega); have h3 := hsame 3 (by omega) (by omega); omega
      · have h2 := hsame 2 (by omega) (by omega); have h3 := hsame 3 (by omega) (by omega); omega
      · have h3 := hsame 3 (by omega) (by omega); omega
      · omega
    have hcmp2 : y[p]! < x[p]! → m < n := by
      intro h
      have : p = 0 ∨ p = 1 ∨ p = 2 ∨ p = 3 := by omega
      rcases this with rfl | rfl | rfl | rfl
      · have h1 := hsame 1 (by omega) (by omega); have h2 := hsame 2 (by omega) (by omega); have h3 := hsame 3 (by omega) (by omega); omega
      · have h2 := hsame 2 (by omega) (by omega); have h3 := hsame 3 (by omega) (by omega); omega
      · have h3 := hsame 3 (by omega) (by omega); omega
      · omega
    refine JC.skip ?_
    refine JC.seq ?_
    refine JC.blk ?_
    refine JC.seq ?_
    refine JC.qs mixed (by kernel_rfl) ?_
    refine Qui.p rfl Ev.move ?_
    refine Qui.p rfl (Ev.iaArrN ar.bourseref27_wide (i := p)) ?_
    refine Qui.p rfl (Ev.ldB sc.uint64 (hv := u3_get (by omega))) ?_
    refine Qui.p rfl Ev.move ?_
    refine Qui.p rfl (Ev.iaArrN ar.bourseref27_wide (i := p)) ?_
    refine Qui.p rfl (Ev.ldB sc.uint64 (hv := u3_get (by omega))) ?_
    refine Qui.p rfl Ev.lt ?_
    refine Qui.nil ?_
    first | refine JC.c (ht := fun c16 => ?_) (hf := fun c16 => ?_) | refine JC.cb (ht := fun c16 => ?_) (hf := fun c16 => ?_)
    · -- then_t16
      refine JC.rs ?_
      refine Seq.p rfl Ev.assign ?_
      refine Seq.nil ?_
      refine JC.ret ?_
      show retQ _ _ _ _ _ _ _ _
      refine ret1 (hp := Part.nil _) (hpost := ?_)
      rw [cmpF, if_pos (hcmp (by omega))]
    · -- else_t16
      refine JC.skip ?_
      refine JC.qs mixed (by kernel_rfl) ?_
      refine Qui.p rfl Ev.move ?_
      refine Qui.p rfl (Ev.iaArrN ar.bourseref27_wide (i := p)) ?_
      refine Qui.p rfl (Ev.ldB sc.uint64 (hv := u3_get (by omega))) ?_
      refine Qui.p rfl Ev.move ?_
      refine Qui.p rfl (Ev.iaArrN ar.bourseref27_wide (i := p)) ?_
      refine Qui.p rfl (Ev.ldB sc.uint64 (hv := u3_get (by omega))) ?_
      refine Qui.p rfl Ev.gt ?_
      refine Qui.nil ?_
      first | refine JC.c (ht := fun c23 => ?_) (hf := fun c23 => ?_) | refine JC.cb (ht := fun c23 => ?_) (hf := fun c23 => ?_)
      · -- then_t23
        refine JC.rs ?_
        refine Seq.p rfl Ev.assign ?_
        refine Seq.nil ?_
        refine JC.ret ?_
        show retQ _ _ _ _ _ _ _ _
        refine ret1 (hp := Part.nil _) (hpost := ?_)
        have h9 := hcmp2 (by omega)
        rw [cmpF, if_neg (by omega), if_neg (by omega)]
      · -- else_t23
        refine JC.skip ?_
        refine JC.reg ?_
        refine Seq.p rfl Ev.move ?_
        refine Seq.p rfl Ev.sub ?_
        refine Seq.p rfl Ev.assign ?_
        refine Seq.nil ?_
        have hnext : ∀ j, p ≤ j → j < 4 → x[j]! = y[j]! := by
          intro j h1 h2
          have h3 : j = p ∨ p + 1 ≤ j := by omega
          rcases h3 with rfl | h3
          · omega
          · exact hsame j h3 h2
        exact ⟨p, _, Part.refl _, ⟨Has.mk (by repeat (first | refine Off.upd ?_ rfl | exact Off.mix | refine Off.mix2 ?_ rfl | exact Off.refl)) (allLook_cons (by repeat (first | exact Look.here | apply Look.there (hne := rfl) | exact Look.const | apply Look.mix rfl | exact Look.arg0 | apply Look.args | exact Look.func)) allLook_nil), rfl, by omega, hnext⟩, by omega⟩
  · -- else_t7
    obtain rfl : q = 0 := by omega
    refine JC.exit ?_ -- 0
    refine JC.rs ?_
    refine Seq.p rfl Ev.assign ?_
    refine Seq.nil ?_
    refine JC.ret ?_
    show retQ _ _ _ _ _ _ _ _
    refine ret1 (hp := Part.nil _) (hpost := ?_)
    have h0 := hsame 0 (by omega) (by omega)
    have h1 := hsame 1 (by omega) (by omega)
    have h2 := hsame 2 (by omega) (by omega)
    have h3 := hsame 3 (by omega) (by omega)
    rw [cmpF, if_neg (by omega), if_pos (by omega)]
def gB (x y : List Nat) : Nat → Nat
  | 0 => 0
  | j + 1 => 1 - (x[j]! + 281474976710656 - y[j]! - gB x y j) / 281474976710656
theorem gB_succ (x y : List Nat) (j : Nat) : gB x y (j + 1) = 1 - (x[j]! + 281474976710656 - y[j]! - gB x y j) / 281474976710656 := rfl
def gX (x y : List Nat) (j : Nat) : Nat := x[j]! + 281474976710656 - y[j]! - gB x y j
def gA (x y : List Nat) (j : Nat) : Nat := gX x y j % 281474976710656
def gO (x y : List Nat) (i : Nat) : List Nat := [if 0 < i then gA x y 0 else x[0]!, if 1 < i then gA x y 1 else x[1]!, if 2 < i then gA x y 2 else x[2]!, if 3 < i then gA x y 3 else x[3]!]
theorem gB_le (x y : List Nat) : ∀ j, gB x y j ≤ 1
  | 0 => Nat.zero_le _
  | j + 1 => Nat.sub_le _ _
theorem gO_len (x y : List Nat) (i : Nat) : (gO x y i).length = 4 := rfl
theorem gO_zero {x : List Nat} (y : List Nat) (hx : x.length = 4) : gO x y 0 = x := by
  match x, hx with
  | [a, b, c, d], _ => rfl
theorem gO_get (x y : List Nat) {i : Nat} (hi : i < 4) : (gO x y i)[i]! = x[i]! := by
  have : i = 0 ∨ i = 1 ∨ i = 2 ∨ i = 3 := by omega
  rcases this with rfl | rfl | rfl | rfl <;> simp [gO]
theorem gO_set (x y : List Nat) (i : Nat) (hi : i < 4) : (gO x y i).set i (gA x y i) = gO x y (i + 1) := by
  have : i = 0 ∨ i = 1 ∨ i = 2 ∨ i = 3 := by omega
  rcases this with rfl | rfl | rfl | rfl <;> simp [gO]
theorem gO_end {n m : Nat} (hn : n < 6277101735386680763835789423207666416102355444464034512896) (hm : m ≤ n) : gO (f4 n) (f4 m) 4 = f4 (n - m) := by
  have hx0 := f4_parts hn
  have hy0 := f4_parts (n := m) (by omega)
  have hd := f4_lt n
  have he := f4_lt m
  obtain ⟨x, hx⟩ : ∃ x, x = f4 n := ⟨_, rfl⟩
  obtain ⟨y, hy⟩ : ∃ x, x = f4 m := ⟨_, rfl⟩
  rw [← hx] at hd hx0 ⊢
  rw [← hy] at he hy0 ⊢
  unfold val4 at hx0 hy0
  have h0 : gO x y 4 = [gA x y 0, gA x y 1, gA x y 2, gA x y 3] := by simp [gO]
  have b0 : gB x y 0 = 0 := by unfold gB; rfl
  have b1 := gB_succ x y 0
  have b2 := gB_succ x y 1
  have b3 := gB_succ x y 2
  rw [Nat.zero_add] at b1
  rw [show 1 + 1 = 2 from rfl] at b2
  rw [show 2 + 1 = 3 from rfl] at b3
  have x0 := hd 0 (by omega); have x1 := hd 1 (by omega); have x2 := hd 2 (by omega); have x3 := hd 3 (by omega)
  have y0 := he 0 (by omega); have y1 := he 1 (by omega); have y2 := he 2 (by omega); have y3 := he 3 (by omega)
  rw [h0]
  unfold gA gX
  rw [b0] at b1 ⊢
  generalize x[0]! = a0 at *
  generalize x[1]! = a1 at *
  generalize x[2]! = a2 at *
  generalize x[3]! = a3 at *
  generalize y[0]! = c0 at *
  generalize y[1]! = c1 at *
  generalize y[2]! = c2 at *
  generalize y[3]! = c3 at *
  generalize gB x y 1 = s1 at *
  generalize gB x y 2 = s2 at *
  generalize gB x y 3 = s3 at *
  clear hd he hx hy h0 b0
  have e1 : s1 = 0 ∧ c0 ≤ a0 ∨ s1 = 1 ∧ a0 < c0 := by omega
  have e2 : s2 = 0 ∧ c1 + s1 ≤ a1 ∨ s2 = 1 ∧ a1 < c1 + s1 := by omega
  have e3 : s3 = 0 ∧ c2 + s2 ≤ a2 ∨ s3 = 1 ∧ a2 < c2 + s2 := by omega
  clear b1 b2 b3
  obtain ⟨r0, hr0⟩ : ∃ r, r = a0 + s1 * 281474976710656 - c0 := ⟨_, rfl⟩
  obtain ⟨r1, hr1⟩ : ∃ r, r = a1 + s2 * 281474976710656 - c1 - s1 := ⟨_, rfl⟩
  obtain ⟨r2, hr2⟩ : ∃ r, r = a2 + s3 * 281474976710656 - c2 - s2 := ⟨_, rfl⟩
  have k0 : r0 + c0 = a0 + s1 * 281474976710656 := by omega
  have k1 : r1 + c1 + s1 = a1 + s2 * 281474976710656 := by omega
  have k2 : r2 + c2 + s2 = a2 + s3 * 281474976710656 := by omega
  have l0 : r0 < 281474976710656 := by omega
  have l1 : r1 < 281474976710656 := by omega
  have l2 : r2 < 281474976710656 := by omega
  have k3 : c3 + s3 ≤ a3 := by omega
  obtain ⟨r3, hr3⟩ : ∃ r, r = a3 - c3 - s3 := ⟨_, rfl⟩
  have k4 : r3 + c3 + s3 = a3 := by omega
  have l3 : r3 < 281474976710656 := by omega
  have hr : n - m = r0 + r1 * 281474976710656 + r2 * 79228162514264337593543950336 + r3 * 22300745198530623141535718272648361505980416 := by omega
  have j0 : (a0 + 281474976710656 - c0 - 0) % 281474976710656 = r0 := by omega
  have j1 : (a1 + 281474976710656 - c1 - s1) % 281474976710656 = r1 := by omega
  have j2 : (a2 + 281474976710656 - c2 - s2) % 281474976710656 = r2 := by omega
  have j3 : (a3 + 281474976710656 - c3 - s3) % 281474976710656 = r3 := by omega
  rw [j0, j1, j2, j3]
  clear hr0 hr1 hr2 hr3 k0 k1 k2 k3 k4 j0 j1 j2 j3 e1 e2 e3 hx0 hy0
  refine x4_eq ?_ ?_ ?_ ?_ <;> omega
set_option maxHeartbeats 1000000 in
set_option maxRecDepth 100000 in
theorem wideLess {w : World} {n m : Nat} (hn : n < 6277101735386680763835789423207666416102355444464034512896) (hm : m ≤ n) : Spec Go.Proofs.Try.prog 36 #[.agg (x4 n).toArray, .agg (x4 m).toArray] w [] (fun u _ => u = .agg (x4 (n - m)).toArray) := by
  have hd := f4_lt n
  have he := f4_lt m
  rw [x4, x4, x4, ← gO_end hn hm]
  obtain ⟨x, hx⟩ : ∃ x, x = f4 n := ⟨_, rfl⟩
  obtain ⟨y, hy⟩ : ∃ x, x = f4 m := ⟨_, rfl⟩
  have hxl : x.length = 4 := by rw [hx]; rfl
  have hyl : y.length = 4 := by rw [hy]; rfl
  rw [← hx] at hd ⊢
  rw [← hy] at he ⊢
  refine Spec.enter (fn := Go.Proofs.Try.f36) (n := 30) [.agg (u3 x).toArray, .agg (u3 y).toArray] Go.Proofs.Try.func36 (by kernel_rfl) rfl Go.Proofs.Try.ntmps36 Go.Proofs.Try.results36 rfl (Own.nil _) ?_
  refine JC.rs ?_
  refine Seq.box (cs := u3 x) (k := ?_); intro b2
  refine Seq.box (cs := u3 y) (k := ?_); intro b3
  refine Seq.alloc (cs := [_, _, _, _]) (hz := z.bourseref27_wide) (k := ?_); intro b4
  refine Seq.nil ?_
  refine JC.rs ?_
  refine Seq.p rfl Ev.assign ?_
  refine Seq.nil ?_
  refine JC.seq ?_
  refine JC.rs ?_
  refine Seq.p rfl Ev.assign ?_
  refine Seq.nil ?_
  refine JC.blk ?_
  refine JC.loop (α := Nat) (I := fun i e1 H1 => Has [5, 6, 7, 8, 9, 10, 11, 12, 13, 14, 15, 16, 17, 18, 19, 20, 21, 22, 23, 24, 25, 26, 27, 28] [(5, .int .u64 ((gB x y i : Nat) : Int)), (6, .int .i64 (i : Int))] _ e1 ∧ H1 = [_, .box b3 80 (u3 y), .box b2 80 (u3 (gO x y i))] ∧ i ≤ 4) (μ := fun i => 4 - i) 0 ⟨Has.mk Off.refl (allLook_cons (by repeat (first | exact Look.here | apply Look.there (hne := rfl) | exact Look.const | apply Look.mix rfl | exact Look.arg0 | apply Look.args | exact Look.func)) (allLook_cons (by repeat (first | exact Look.here | apply Look.there (hne := rfl) | exact Look.const | apply Look.mix rfl | exact Look.arg0 | apply Look.args | exact Look.func)) allLook_nil)), by rw [gO_zero y hxl], by omega⟩ ?_
  rintro i _ _ ⟨⟨u, rfl⟩, rfl, hi⟩; dsimp only [setL]
  refine JC.seq ?_
  refine JC.rs ?_
  refine Seq.p rfl Ev.move ?_
  refine Seq.p rfl Ev.lt ?_
  refine Seq.nil ?_
  first | refine JC.c (ht := fun c9 => ?_) (hf := fun c9 => ?_) | refine JC.cb (ht := fun c9 => ?_) (hf := fun c9 => ?_)
  · -- then_t9
    have hi2 : i < 4 := by omega
    have hb := gB_le x y i
    have hxi := hd i hi2
    have hyi := he i hi2
    have hgn := gB_succ x y i
    refine JC.skip ?_
    refine JC.seq ?_
    refine JC.blk ?_
    refine JC.qs mixed (by kernel_rfl) ?_
    refine Qui.p rfl Ev.move ?_
    refine Qui.p rfl (Ev.iaArrN ar.bourseref27_wide (i := i)) ?_
    refine Qui.p rfl (Ev.as (v' := .int .u64 ((x[i]! : Nat) : Int)) (by rw [gO_get x y hi2]) (Ev.ldB sc.uint64 (hv := u3_get (by rw [gO_len]; exact hi2)))) ?_
    refine Qui.p rfl (Ev.addNU (a := x[i]!) (b := 281474976710656)) ?_
    refine Qui.p rfl Ev.move ?_
    refine Qui.p rfl (Ev.iaArrN ar.bourseref27_wide (i := i)) ?_
    refine Qui.p rfl (Ev.ldB sc.uint64 (hv := u3_get (by omega))) ?_
    refine Qui.p rfl (Ev.subNU (a := x[i]! + 281474976710656) (b := y[i]!)) ?_
    refine Qui.p rfl Ev.move ?_
    refine Qui.p rfl (Ev.as (v' := .int .u64 ((gX x y i : Nat) : Int)) rfl (Ev.subNU (a := x[i]! + 281474976710656 - y[i]!) (b := gB x y i))) ?_
    refine Qui.p rfl Ev.assign ?_
    refine Qui.nil ?_
    refine JC.rs ?_
    refine Seq.p rfl Ev.move ?_
    refine Seq.p rfl Ev.move ?_
    refine Seq.p rfl (Ev.remNU (a := gX x y i) (b := 281474976710656)) ?_
    refine Seq.p rfl (Ev.iaArrN ar.bourseref27_wide (i := i)) ?_
    refine Seq.storeTo (cs' := u3 (gO x y (i + 1))) sz.uint64 (hH := At.s (At.s At.z)) (hfit := by rw [u3_len, gO_len]; show 0 + i * 1 + 1 ≤ 4; omega) (hcs := by rw [← gO_set x y i hi2, ← u3_set _ (by rw [gO_len]; exact hi2)]; rfl) (k := ?_)
    refine Seq.nil ?_
    refine JC.reg ?_
    refine Seq.p rfl Ev.move ?_
    refine Seq.p rfl (Ev.shrNU (a := gX x y i) 281474976710656) ?_
    refine Seq.p rfl (Ev.as (v' := .int .u64 ((gB x y (i + 1) : Nat) : Int)) (by rw [hgn]; rfl) (Ev.subNU (a := 1) (b := gX x y i / 281474976710656) (h := by unfold gX; omega))) ?_
    refine Seq.p rfl Ev.assign ?_
    refine Seq.nil ?_
    refine JC.reg ?_
    refine Seq.p rfl Ev.move ?_
    refine Seq.p rfl (by first | exact Ev.inc | exact Ev.add) ?_
    refine Seq.p rfl Ev.assign ?_
    refine Seq.nil ?_
    exact ⟨i + 1, _, Part.refl _, ⟨Has.mk (by repeat (first | refine Off.upd ?_ rfl | exact Off.mix | refine Off.mix2 ?_ rfl | exact Off.refl)) (allLook_cons (by repeat (first | exact Look.here | apply Look.there (hne := rfl) | exact Look.const | apply Look.mix rfl | exact Look.arg0 | apply Look.args | exact Look.func)) (allLook_cons (by repeat (first | exact Look.here | apply Look.there (hne := rfl) | exact Look.const | apply Look.mix rfl | exact Look.arg0 | apply Look.args | exact Look.func)) allLook_nil)), rfl, by omega⟩, by omega⟩
  · -- else_t9
    obtain rfl : i = 4 := by omega
    refine JC.exit ?_ -- 0
    refine JC.rs ?_
    refine Seq.p rfl (Ev.ldBA (cs := u3 (gO x y 4)) ag.bourseref27_wide) ?_
    refine Seq.storeTo (cs' := u3 (gO x y 4)) sz.bourseref27_wide (hH := At.z) (hfit := Nat.le_of_ble_eq_true rfl) (hcs := rfl) (k := ?_)
    refine Seq.nil ?_
    refine JC.ret ?_
    show retQ _ _ _ _ _ _ _ _
    refine retB1 ag.bourseref27_wide (cs := u3 (gO x y 4)) (hp := Part.nil _) (hpost := ?_)
    rfl
end Go.Rx
/- The reference: what a trade counts; trades of events. -/
namespace Go.Rx
open Go Go.RowKit
set_option linter.unusedVariables false
set_option linter.unusedSimpArgs false
set_option maxHeartbeats 1000000 in
theorem refPrice {w : World} {e : Event} : Spec Go.Proofs.Try.prog 33 #[.agg e.enc.toArray] w [] (fun u _ => u = .int .u32 (worthF e.price : Int)) := by
  refine Spec.enter (fn := Go.Proofs.Try.f33) (n := 14) [.agg e.enc.toArray] Go.Proofs.Try.func33 (by kernel_rfl) rfl Go.Proofs.Try.ntmps33 Go.Proofs.Try.results33 rfl (Own.nil _) ?_
  refine JC.rs ?_
  refine Seq.box (cs := [_, _, _, _, _, _, _, _, _, _, _, _, _]) (k := ?_); intro b1
  refine Seq.p rfl Ev.assign ?_
  refine Seq.nil ?_
  refine JC.seq ?_
  refine JC.rs ?_
  refine Seq.p rfl (Ev.faB fd.api_Event_8) ?_
  refine Seq.p rfl (Ev.ldB sc.int) ?_
  refine Seq.p rfl Ev.lt ?_
  refine Seq.p rfl Ev.move ?_
  refine Seq.orG (D := [6, 7, 8, 9, 10]) (d := 6) (t := 10) (k := 4) (hn := fun h6 => ?_) (hx := ?_)
  · repeat (first | refine Seq.gn rfl rfl rfl rfl ?_ | refine Seq.gu rfl rfl rfl ?_)
    refine Seq.p rfl Ev.pickT ?_
    exact Seq.nil ⟨rfl, (by repeat (first | with_reducible exact Off.refl | refine Off.upd ?_ rfl | exact Off.mix | refine Off.mix2 ?_ rfl)), Look.here⟩
  apply Exists.intro
  refine ⟨fun h6 => ?_, fun u10 => ?_⟩
  · try simp only [decide_eq_true_eq, decide_eq_false_iff_not, Bool.and_eq_true, Bool.or_eq_true, Bool.not_eq_true', Bool.not_eq_false', Bool.or_eq_false_iff, Bool.and_eq_false_imp] at h6
    refine Seq.gy rfl rfl rfl ?_
    refine Seq.p rfl (Ev.faB fd.api_Event_8) ?_
    refine Seq.gy rfl rfl rfl ?_
    refine Seq.p rfl (Ev.ldB sc.int) ?_
    refine Seq.gy rfl rfl rfl ?_
    refine Seq.p rfl Ev.ge ?_
    refine Seq.p rfl Ev.pickF ?_
    exact Seq.nil ⟨rfl, (by repeat (first | with_reducible exact Off.refl | refine Off.upd ?_ rfl | exact Off.mix | refine Off.mix2 ?_ rfl)), Look.here⟩
  refine Seq.nil ?_
  first | refine JC.c (ht := fun c10 => ?_) (hf := fun c10 => ?_) | refine JC.cb (ht := fun c10 => ?_) (hf := fun c10 => ?_)
  · -- then_t10
    refine JC.rs ?_
    refine Seq.p rfl Ev.assign ?_
    refine Seq.nil ?_
    refine JC.ret ?_
    show retQ _ _ _ _ _ _ _ _
    refine ret1 (hp := Part.nil _) (hpost := ?_)
    unfold worthF; simp only [Bool.or_eq_true, decide_eq_true_eq] at c10; rw [if_pos c10]; rfl
  · -- else_t10
    refine JC.skip ?_
    refine JC.rs ?_
    refine Seq.p rfl (Ev.faB fd.api_Event_8) ?_
    refine Seq.p rfl (Ev.ldB sc.int) ?_
    refine Seq.p rfl (Ev.convU32 it.int it.uint32 (h := by simp only [Bool.or_eq_false_iff, decide_eq_false_iff_not] at c10; omega)) ?_
    refine Seq.p rfl Ev.assign ?_
    refine Seq.nil ?_
    refine JC.ret ?_
    show retQ _ _ _ _ _ _ _ _
    refine ret1 (hp := Part.nil _) (hpost := ?_)
    unfold worthF; simp only [Bool.or_eq_false_iff, decide_eq_false_iff_not] at c10; rw [if_neg (by omega), Int.toNat_of_nonneg (by omega)]
def trE (l : List Event) : List Event := l.filter fun e => decide (e.kind = 3)
theorem trE_map (l : List Event) : (trE l).map Event.trd = tradesF l := rfl
theorem trE_len (l : List Event) : (trE l).length ≤ l.length := List.length_filter_le ..
theorem trE_take {l : List Event} {i : Nat} (hi : i < l.length) : trE (l.take (i + 1)) = trE (l.take i) ++ if l[i]!.kind = 3 then [l[i]!] else [] := by
  rw [List.take_succ_eq_append_getElem hi, trE, List.filter_append, getElem!_pos l i hi]
  congr 1
  by_cases h : l[i].kind = 3
  · rw [if_pos h, List.filter_cons_of_pos (by simpa using h)]; rfl
  · rw [if_neg h, List.filter_cons_of_neg (by simpa using h)]; rfl
set_option maxHeartbeats 1000000 in
set_option maxRecDepth 100000 in
theorem refTrades {w : World} {v : Value} {es : List Event} (he : RSl Event.enc 13 w [] v es) (hlim : es.length * 104 ≤ 140737488355328) :
    Spec Go.Proofs.Try.prog 13 #[v] w [] (fun u F' => ∃ A c, u = .slice A (trE es).length c ∧ F' = [.own 45 13 (.slice A (trE es).length c) (trE es).length ((trE es).flatMap Event.enc)]) := by
  have hs := he.small
  refine Spec.enter (fn := Go.Proofs.Try.f13) (n := 26) [v] Go.Proofs.Try.func13 (by kernel_rfl) rfl Go.Proofs.Try.ntmps13 Go.Proofs.Try.results13 rfl (Own.nil _) ?_
  refine JC.rs ?_
  refine Seq.p rfl Ev.assign ?_
  refine Seq.nil ?_
  refine JC.rs ?_
  refine Seq.buildSl (cs := []) (hsl := sl.sl_api_Event) (hz := z.api_Event) (hcs := rfl) (k := ?_); intro b5
  refine Seq.re (fun w h => Upd.boxOwn h (n := 0) (size := 13) At.z rfl (by omega)) ?_
  refine Seq.p rfl Ev.assign ?_
  refine Seq.nil ?_
  refine JC.seq ?_
  refine JC.rs ?_
  refine Seq.p rfl Ev.assign ?_
  refine Seq.nil ?_
  refine JC.blk ?_
  refine JC.loop (α := Nat) (I := fun i e1 H1 => ∃ A c, Has [3, 4, 6, 7, 8, 9, 10, 11, 12, 13, 14, 15, 16, 17, 18, 19, 20, 21, 22, 23, 24] [(3, .slice A (trE (es.take i)).length c), (4, .int .i64 (i : Int))] _ e1 ∧ H1 = [.own 45 13 (.slice A (trE (es.take i)).length c) (trE (es.take i)).length ((trE (es.take i)).flatMap Event.enc)] ∧ i ≤ es.length) (μ := fun i => es.length - i) 0 ⟨_, _, Has.mk Off.refl (allLook_cons (by repeat (first | exact Look.here | apply Look.there (hne := rfl) | exact Look.const | apply Look.mix rfl | exact Look.arg0 | apply Look.args | exact Look.func)) (allLook_cons (by repeat (first | exact Look.here | apply Look.there (hne := rfl) | exact Look.const | apply Look.mix rfl | exact Look.arg0 | apply Look.args | exact Look.func)) allLook_nil)), rfl, by omega⟩ ?_
  rintro i _ _ ⟨A, c, ⟨u, rfl⟩, rfl, hi⟩; dsimp only [setL]
  refine JC.seq ?_
  refine JC.rs ?_
  refine Seq.p rfl Ev.move ?_
  refine Seq.p rfl Ev.move ?_
  refine Seq.p rfl (Ev.lenSl sl.sl_api_Event (hr := he.r)) ?_
  refine Seq.p rfl Ev.lt ?_
  refine Seq.nil ?_
  first | refine JC.c (ht := fun c9 => ?_) (hf := fun c9 => ?_) | refine JC.cb (ht := fun c9 => ?_) (hf := fun c9 => ?_)
  · -- then_t9
    have hi2 : i < es.length := by omega
    have hT := trE_take hi2
    have hl := trE_len (es.take i)
    rw [List.length_take, Nat.min_eq_left hi] at hl
    obtain ⟨M, hM⟩ : ∃ M, M = trE (es.take i) := ⟨_, rfl⟩
    rw [← hM] at hT hl ⊢
    refine JC.skip ?_
    refine JC.seq ?_
    refine JC.blk ?_
    refine JC.rs ?_
    refine Seq.p rfl Ev.move ?_
    refine Seq.p rfl Ev.move ?_
    refine Seq.p rfl (Ev.iaN sl.sl_api_Event (hr := he.r)) ?_
    refine Seq.p rfl (Ev.fa fd.api_Event_1) ?_
    refine Seq.p rfl (Ev.ldE sc.int (hr := he.r)) ?_
    refine Seq.p rfl Ev.eq ?_
    refine Seq.nil ?_
    first | refine JC.c (ht := fun c17 => ?_) (hf := fun c17 => ?_) | refine JC.cb (ht := fun c17 => ?_) (hf := fun c17 => ?_)
    · -- then_t17
      rw [if_pos c17] at hT
      refine JC.reg ?_
      refine Seq.p rfl Ev.move ?_
      refine Seq.p rfl Ev.move ?_
      refine Seq.p rfl Ev.move ?_
      refine Seq.p rfl (Ev.iaN sl.sl_api_Event (hr := he.r)) ?_
      refine Seq.p rfl (Ev.ldEA ag.api_Event (hr := he.r)) ?_
      refine Seq.buildSlN [_, _, _, _, _, _, _, _, _, _, _, _, _] (hsl := sl.sl_api_Event) (hz := z.api_Event) (k := ?_); intro b23
      refine Seq.append (hsl := sl.sl_api_Event) (he := el.api_Event) (hsrc := (fun w' hw => Src.box (news := es[i]!.enc) sl.sl_api_Event At.z hw rfl (fun q u hu => hu))) (k := ?_); intro A24 c24
      refine Seq.p rfl Ev.assign ?_
      refine Seq.nil ?_
      refine JC.reg ?_
      refine Seq.p rfl Ev.move ?_
      refine Seq.p rfl (by first | exact Ev.inc | exact Ev.add) ?_
      refine Seq.p rfl Ev.assign ?_
      refine Seq.nil ?_
      by_cases hk3 : es[i]!.kind = 3
      · first | exact absurd hk3 c17 | (refine ⟨i + 1, _, Part.skip (Part.refl _), ⟨A24, c24, Has.mk (by repeat (first | refine Off.upd ?_ rfl | exact Off.mix | refine Off.mix2 ?_ rfl | exact Off.refl)) (allLook_cons (by rw [hT, List.length_append]; exact (by repeat (first | exact Look.here | apply Look.there (hne := rfl) | exact Look.const | apply Look.mix rfl | exact Look.arg0 | apply Look.args | exact Look.func))) (allLook_cons (by repeat (first | exact Look.here | apply Look.there (hne := rfl) | exact Look.const | apply Look.mix rfl | exact Look.arg0 | apply Look.args | exact Look.func)) allLook_nil)), ?_, by omega⟩, by omega⟩; rw [hT]; simp)
      · first | exact absurd c17 hk3 | exact ⟨i + 1, _, Part.refl _, ⟨A, c, Has.mk (by repeat (first | refine Off.upd ?_ rfl | exact Off.mix | refine Off.mix2 ?_ rfl | exact Off.refl)) (allLook_cons (by rw [hT]; exact (by repeat (first | exact Look.here | apply Look.there (hne := rfl) | exact Look.const | apply Look.mix rfl | exact Look.arg0 | apply Look.args | exact Look.func))) (allLook_cons (by repeat (first | exact Look.here | apply Look.there (hne := rfl) | exact Look.const | apply Look.mix rfl | exact Look.arg0 | apply Look.args | exact Look.func)) allLook_nil)), by rw [hT], by omega⟩, by omega⟩
    · -- else_t17
      rw [if_neg c17, List.append_nil] at hT
      refine JC.skip ?_
      refine JC.reg ?_
      refine Seq.p rfl Ev.move ?_
      refine Seq.p rfl (by first | exact Ev.inc | exact Ev.add) ?_
      refine Seq.p rfl Ev.assign ?_
      refine Seq.nil ?_
      by_cases hk3 : es[i]!.kind = 3
      · first | exact absurd hk3 c17 | (refine ⟨i + 1, _, Part.skip (Part.refl _), ⟨A24, c24, Has.mk (by repeat (first | refine Off.upd ?_ rfl | exact Off.mix | refine Off.mix2 ?_ rfl | exact Off.refl)) (allLook_cons (by rw [hT, List.length_append]; exact (by repeat (first | exact Look.here | apply Look.there (hne := rfl) | exact Look.const | apply Look.mix rfl | exact Look.arg0 | apply Look.args | exact Look.func))) (allLook_cons (by repeat (first | exact Look.here | apply Look.there (hne := rfl) | exact Look.const | apply Look.mix rfl | exact Look.arg0 | apply Look.args | exact Look.func)) allLook_nil)), ?_, by omega⟩, by omega⟩; rw [hT]; simp)
      · first | exact absurd c17 hk3 | exact ⟨i + 1, _, Part.refl _, ⟨A, c, Has.mk (by repeat (first | refine Off.upd ?_ rfl | exact Off.mix | refine Off.mix2 ?_ rfl | exact Off.refl)) (allLook_cons (by rw [hT]; exact (by repeat (first | exact Look.here | apply Look.there (hne := rfl) | exact Look.const | apply Look.mix rfl | exact Look.arg0 | apply Look.args | exact Look.func))) (allLook_cons (by repeat (first | exact Look.here | apply Look.there (hne := rfl) | exact Look.const | apply Look.mix rfl | exact Look.arg0 | apply Look.args | exact Look.func)) allLook_nil)), by rw [hT], by omega⟩, by omega⟩
  · -- else_t9
    obtain rfl : i = es.length := by omega
    rw [List.take_length]
    refine JC.exit ?_ -- 0
    refine JC.rs ?_
    refine Seq.p rfl Ev.move ?_
    refine Seq.p rfl Ev.assign ?_
    refine Seq.nil ?_
    refine JC.ret ?_
    show retQ _ _ _ _ _ _ _ _
    refine ret1 (hp := Part.refl _) (hpost := ?_)
    exact ⟨_, _, rfl, rfl⟩
end Go.Rx
