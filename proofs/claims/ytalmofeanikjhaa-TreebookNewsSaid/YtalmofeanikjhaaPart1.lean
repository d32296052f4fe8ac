/- Parts of the proof. -/
import Derived.Test.YtalmofeanikjhaaProg
import Derived.Test.YtalmofeanikjhaaRxL1
import Derived.KernelRfl
import Derived.Test.YtalmofeanikjhaaRxL2
set_option linter.unusedVariables false
set_option linter.unusedSimpArgs false
/- Facts of the types of the program. -/
namespace Go.Rx
open Go
theorem mixed : Go.Proofs.Try.prog.follows .mixedOrders = true := by kernel_rfl
theorem fd.api_Config_0 : fldOf Go.Proofs.Try.prog 23 0 0 3 1 = true := by kernel_rfl
theorem sc.int : isSc Go.Proofs.Try.prog 3 = true := by kernel_rfl
theorem fd.api_Config_1 : fldOf Go.Proofs.Try.prog 23 1 1 3 1 = true := by kernel_rfl
theorem fd.api_Resting_0 : fldOf Go.Proofs.Try.prog 42 0 0 31 1 = true := by kernel_rfl
theorem sc.uint64 : isSc Go.Proofs.Try.prog 31 = true := by kernel_rfl
theorem fd.api_Resting_2 : fldOf Go.Proofs.Try.prog 42 2 2 3 1 = true := by kernel_rfl
theorem fd.api_Resting_3 : fldOf Go.Proofs.Try.prog 42 3 3 3 1 = true := by kernel_rfl
theorem fd.api_Resting_4 : fldOf Go.Proofs.Try.prog 42 4 4 31 1 = true := by kernel_rfl
theorem fd.api_Resting_6 : fldOf Go.Proofs.Try.prog 42 6 6 31 1 = true := by kernel_rfl
theorem fd.api_Resting_5 : fldOf Go.Proofs.Try.prog 42 5 5 31 1 = true := by kernel_rfl
theorem sl.sl_api_Resting : slcOf Go.Proofs.Try.prog 47 42 7 = true := by kernel_rfl
theorem fd.api_Book_0 : fldOf Go.Proofs.Try.prog 49 0 0 23 2 = true := by kernel_rfl
theorem ag.api_Config : isAg Go.Proofs.Try.prog 23 2 = true := by kernel_rfl
theorem fd.api_Book_1 : fldOf Go.Proofs.Try.prog 49 1 2 47 1 = true := by kernel_rfl
theorem sc.sl_api_Resting : isSc Go.Proofs.Try.prog 47 = true := by kernel_rfl
theorem fd.api_Book_2 : fldOf Go.Proofs.Try.prog 49 2 3 47 1 = true := by kernel_rfl
theorem z.api_Resting : zeroOf Go.Proofs.Try.prog 42 = some (.agg #[.int .u64 0, .int .u32 0, .int .i64 0, .int .i64 0, .int .u64 0, .int .u64 0, .int .u64 0]) := by kernel_rfl
theorem el.api_Resting : elOf Go.Proofs.Try.prog 42 7 56 = true := by kernel_rfl
theorem ag.api_Resting : isAg Go.Proofs.Try.prog 42 7 = true := by kernel_rfl
theorem fd.api_Book_3 : fldOf Go.Proofs.Try.prog 49 3 4 31 1 = true := by kernel_rfl
theorem z.api_Book : zeroOf Go.Proofs.Try.prog 49 = some (.agg #[.int .i64 0, .int .i64 0, .slice none 0 0, .slice none 0 0, .int .u64 0, .int .u64 0]) := by kernel_rfl
theorem sz.sl_api_Resting : szOf Go.Proofs.Try.prog 47 1 = true := by kernel_rfl
theorem ag.api_Book : isAg Go.Proofs.Try.prog 49 6 = true := by kernel_rfl
theorem sz.api_Book : szOf Go.Proofs.Try.prog 49 6 = true := by kernel_rfl
theorem pl.api_Book : fieldPlaces Go.Proofs.Try.prog 49 = some [(0, 2), (2, 1), (3, 1), (4, 1), (5, 1)] := by kernel_rfl
theorem sz.api_Resting : szOf Go.Proofs.Try.prog 42 7 = true := by kernel_rfl
theorem pl.api_Resting : fieldPlaces Go.Proofs.Try.prog 42 = some [(0, 1), (1, 1), (2, 1), (3, 1), (4, 1), (5, 1), (6, 1)] := by kernel_rfl
theorem so.api_Config : sorts Go.Proofs.Try.prog 20 23 = some [.int .i64, .int .i64] := by kernel_rfl
theorem so.api_Command : sorts Go.Proofs.Try.prog 20 36 = some [.int .i64, .int .u64, .int .u64, .int .u32, .int .i64, .int .i64, .int .i64, .int .u64, .int .u64] := by kernel_rfl
theorem ce.api_Command : Go.Proofs.Try.prog.cellsOf 36 = 9 := by kernel_rfl
theorem byt.api_Command : Go.Proofs.Try.prog.bytesOf 36 = 72 := by kernel_rfl
theorem und.p_avl_node_treebook_level : Go.Proofs.Try.prog.underlying 86 = some (.pointer 186) := Go.Proofs.Try.underlying86
theorem fd.avl_node_treebook_level_2 : fldOf Go.Proofs.Try.prog 186 2 2 3 1 = true := by kernel_rfl
theorem fd.avl_node_treebook_level_3 : fldOf Go.Proofs.Try.prog 186 3 3 3 1 = true := by kernel_rfl
theorem fd.avl_node_treebook_level_0 : fldOf Go.Proofs.Try.prog 186 0 0 3 1 = true := by kernel_rfl
theorem fd.avl_node_treebook_level_1 : fldOf Go.Proofs.Try.prog 186 1 1 100 1 = true := by kernel_rfl
theorem sc.p_treebook_level : isSc Go.Proofs.Try.prog 100 = true := by kernel_rfl
theorem fd.avl_node_treebook_level_4 : fldOf Go.Proofs.Try.prog 186 4 4 184 2 = true := by kernel_rfl
theorem ar.a2_p_avl_node_treebook_level : arrOf Go.Proofs.Try.prog 184 2 86 1 = true := by kernel_rfl
theorem sc.p_avl_node_treebook_level : isSc Go.Proofs.Try.prog 86 = true := by kernel_rfl
theorem sz.int : szOf Go.Proofs.Try.prog 3 1 = true := by kernel_rfl
theorem sz.p_avl_node_treebook_level : szOf Go.Proofs.Try.prog 86 1 = true := by kernel_rfl
theorem fd.avl_Tree_treebook_level_0 : fldOf Go.Proofs.Try.prog 88 0 0 86 1 = true := by kernel_rfl
theorem pl.avl_node_treebook_level : fieldPlaces Go.Proofs.Try.prog 186 = some [(0, 1), (1, 1), (2, 1), (3, 1), (4, 2)] := by kernel_rfl
theorem z.avl_node_treebook_level : zeroOf Go.Proofs.Try.prog 186 = some (.agg #[.int .i64 0, .pointer none, .int .i64 0, .int .i64 0, .pointer none, .pointer none]) := by kernel_rfl
theorem sz.p_treebook_level : szOf Go.Proofs.Try.prog 100 1 = true := by kernel_rfl
theorem sc.p_treebook_order : isSc Go.Proofs.Try.prog 99 = true := by kernel_rfl
theorem fd.treebook_order_3 : fldOf Go.Proofs.Try.prog 102 3 9 100 1 = true := by kernel_rfl
theorem sz.p_treebook_order : szOf Go.Proofs.Try.prog 99 1 = true := by kernel_rfl
theorem fd.treebook_order_2 : fldOf Go.Proofs.Try.prog 102 2 8 99 1 = true := by kernel_rfl
theorem und.p_treebook_order : Go.Proofs.Try.prog.underlying 99 = some (.pointer 102) := Go.Proofs.Try.underlying99
theorem fd.treebook_level_1 : fldOf Go.Proofs.Try.prog 104 1 1 99 1 = true := by kernel_rfl
theorem fd.treebook_level_3 : fldOf Go.Proofs.Try.prog 104 3 3 31 1 = true := by kernel_rfl
theorem fd.treebook_order_0 : fldOf Go.Proofs.Try.prog 102 0 0 42 7 = true := by kernel_rfl
theorem sz.uint64 : szOf Go.Proofs.Try.prog 31 1 = true := by kernel_rfl
theorem fd.treebook_level_4 : fldOf Go.Proofs.Try.prog 104 4 4 3 1 = true := by kernel_rfl
theorem fd.treebook_Book_1 : fldOf Go.Proofs.Try.prog 92 1 2 89 2 = true := by kernel_rfl
theorem ar.a2_avl_Tree_treebook_level : arrOf Go.Proofs.Try.prog 89 2 88 1 = true := by kernel_rfl
theorem fd.treebook_Book_2 : fldOf Go.Proofs.Try.prog 92 2 4 90 1 = true := by kernel_rfl
theorem sc.m_uint64_p_treebook_order : isSc Go.Proofs.Try.prog 90 = true := by kernel_rfl
theorem mp.m_uint64_p_treebook_order : mapOf Go.Proofs.Try.prog 90 31 99 (.int .u64) := ⟨Go.Proofs.Try.underlying90, Go.Proofs.Try.underlying31⟩
theorem fd.treebook_level_0 : fldOf Go.Proofs.Try.prog 104 0 0 3 1 = true := by kernel_rfl
theorem fd.api_Book_4 : fldOf Go.Proofs.Try.prog 49 4 5 31 1 = true := by kernel_rfl
theorem fd.treebook_Book_4 : fldOf Go.Proofs.Try.prog 92 4 6 31 1 = true := by kernel_rfl
theorem fd.treebook_Book_0 : fldOf Go.Proofs.Try.prog 92 0 0 23 2 = true := by kernel_rfl
theorem sl.sl_avl_node_treebook_level : slcOf Go.Proofs.Try.prog 203 186 6 = true := by kernel_rfl
theorem el.avl_node_treebook_level : elOf Go.Proofs.Try.prog 186 6 48 = true := by kernel_rfl
theorem sc.p_avl_Tree_treebook_level : isSc Go.Proofs.Try.prog 149 = true := by kernel_rfl
theorem ag.avl_node_treebook_level : isAg Go.Proofs.Try.prog 186 6 = true := by kernel_rfl
theorem sz.avl_node_treebook_level : szOf Go.Proofs.Try.prog 186 6 = true := by kernel_rfl
theorem z.sl_p_treebook_level : zeroOf Go.Proofs.Try.prog 120 = some (.slice none 0 0) := by kernel_rfl
theorem sc.sl_p_treebook_level : isSc Go.Proofs.Try.prog 120 = true := by kernel_rfl
theorem sl.sl_p_treebook_level : slcOf Go.Proofs.Try.prog 120 100 1 = true := by kernel_rfl
theorem z.p_treebook_level : zeroOf Go.Proofs.Try.prog 100 = some (.pointer none) := by kernel_rfl
theorem el.p_treebook_level : elOf Go.Proofs.Try.prog 100 1 8 = true := by kernel_rfl
theorem sz.sl_p_treebook_level : szOf Go.Proofs.Try.prog 120 1 = true := by kernel_rfl
theorem z.bool : zeroOf Go.Proofs.Try.prog 4 = some (.bool false) := by kernel_rfl
theorem z.uint64 : zeroOf Go.Proofs.Try.prog 31 = some (.int .u64 0) := by kernel_rfl
theorem sc.p_treebook_Book : isSc Go.Proofs.Try.prog 26 = true := by kernel_rfl
theorem sz.bool : szOf Go.Proofs.Try.prog 4 1 = true := by kernel_rfl
theorem sc.bool : isSc Go.Proofs.Try.prog 4 = true := by kernel_rfl
theorem ag.api_Command : isAg Go.Proofs.Try.prog 36 9 = true := by kernel_rfl
theorem z.p_treebook_order : zeroOf Go.Proofs.Try.prog 99 = some (.pointer none) := by kernel_rfl
theorem fd.treebook_Book_3 : fldOf Go.Proofs.Try.prog 92 3 5 31 1 = true := by kernel_rfl
theorem sl.sl_api_Level : slcOf Go.Proofs.Try.prog 62 66 3 = true := by kernel_rfl
theorem z.api_Level : zeroOf Go.Proofs.Try.prog 66 = some (.agg #[.int .i64 0, .int .u64 0, .int .i64 0]) := by kernel_rfl
theorem fd.api_Level_0 : fldOf Go.Proofs.Try.prog 66 0 0 3 1 = true := by kernel_rfl
theorem fd.api_Level_1 : fldOf Go.Proofs.Try.prog 66 1 1 31 1 = true := by kernel_rfl
theorem fd.api_Level_2 : fldOf Go.Proofs.Try.prog 66 2 2 3 1 = true := by kernel_rfl
theorem pl.api_Level : fieldPlaces Go.Proofs.Try.prog 66 = some [(0, 1), (1, 1), (2, 1)] := by kernel_rfl
theorem el.api_Level : elOf Go.Proofs.Try.prog 66 3 24 = true := by kernel_rfl
theorem sz.api_Level : szOf Go.Proofs.Try.prog 66 3 = true := by kernel_rfl
theorem ag.api_Level : isAg Go.Proofs.Try.prog 66 3 = true := by kernel_rfl
theorem sl.sl_sl_api_Resting : slcOf Go.Proofs.Try.prog 117 47 1 = true := by kernel_rfl
theorem z.sl_api_Resting : zeroOf Go.Proofs.Try.prog 47 = some (.slice none 0 0) := by kernel_rfl
theorem mp.m_uint64_bool : mapOf Go.Proofs.Try.prog 116 31 4 (.int .u64) := ⟨Go.Proofs.Try.underlying116, Go.Proofs.Try.underlying31⟩
theorem pl.treebook_Book : fieldPlaces Go.Proofs.Try.prog 92 = some [(0, 2), (2, 2), (4, 1), (5, 1), (6, 1)] := by kernel_rfl
theorem z.treebook_Book : zeroOf Go.Proofs.Try.prog 92 = some (.agg #[.int .i64 0, .int .i64 0, .pointer none, .pointer none, .map none, .int .u64 0, .int .u64 0]) := by kernel_rfl
theorem sz.treebook_Book : szOf Go.Proofs.Try.prog 92 7 = true := by kernel_rfl
theorem so.api_Resting : sorts Go.Proofs.Try.prog 20 42 = some [.int .u64, .int .u32, .int .i64, .int .i64, .int .u64, .int .u64, .int .u64] := by kernel_rfl
theorem gd.api_Resting : Go.Proofs.Try.prog.eqGuardType Go.Proofs.Try.prog.depth 42 = false := by kernel_rfl
theorem so.api_Level : sorts Go.Proofs.Try.prog 20 66 = some [.int .i64, .int .u64, .int .i64] := by kernel_rfl
theorem gd.api_Level : Go.Proofs.Try.prog.eqGuardType Go.Proofs.Try.prog.depth 66 = false := by kernel_rfl
theorem gd.api_Config : Go.Proofs.Try.prog.eqGuardType Go.Proofs.Try.prog.depth 23 = false := by kernel_rfl
theorem fd.bourselaw10_pair_0 : fldOf Go.Proofs.Try.prog 54 0 0 26 1 = true := by kernel_rfl
theorem fd.bourselaw10_pair_1 : fldOf Go.Proofs.Try.prog 54 1 1 49 6 = true := by kernel_rfl
theorem pl.bourselaw10_pair : fieldPlaces Go.Proofs.Try.prog 54 = some [(0, 1), (1, 6)] := by kernel_rfl
theorem z.bourselaw10_pair : zeroOf Go.Proofs.Try.prog 54 = some (.agg #[.pointer none, .int .i64 0, .int .i64 0, .slice none 0 0, .slice none 0 0, .int .u64 0, .int .u64 0]) := by kernel_rfl
theorem und.p_treebook_Book : Go.Proofs.Try.prog.underlying 26 = some (.pointer 92) := Go.Proofs.Try.underlying26
theorem bl.bool : isBoolT Go.Proofs.Try.prog 4 = true := by kernel_rfl
theorem fd.bourselaw10_Step_0 : fldOf Go.Proofs.Try.prog 72 0 0 3 1 = true := by kernel_rfl
theorem fd.bourselaw10_Step_1 : fldOf Go.Proofs.Try.prog 72 1 1 36 9 = true := by kernel_rfl
theorem fd.bourselaw10_Step_2 : fldOf Go.Proofs.Try.prog 72 2 10 49 6 = true := by kernel_rfl
theorem fd.bourselaw10_Step_3 : fldOf Go.Proofs.Try.prog 72 3 16 3 1 = true := by kernel_rfl
theorem fd.bourselaw10_Step_4 : fldOf Go.Proofs.Try.prog 72 4 17 3 1 = true := by kernel_rfl
theorem fd.bourselaw10_Step_5 : fldOf Go.Proofs.Try.prog 72 5 18 31 1 = true := by kernel_rfl
theorem pl.bourselaw10_Step : fieldPlaces Go.Proofs.Try.prog 72 = some [(0, 1), (1, 9), (10, 6), (16, 1), (17, 1), (18, 1)] := by kernel_rfl
theorem z.bourselaw10_Step : zeroOf Go.Proofs.Try.prog 72 = some (.agg #[.int .i64 0, .int .i64 0, .int .u64 0, .int .u64 0, .int .u32 0, .int .i64 0, .int .i64 0, .int .i64 0, .int .u64 0, .int .u64 0, .int .i64 0, .int .i64 0, .slice none 0 0, .slice none 0 0, .int .u64 0, .int .u64 0, .int .i64 0, .int .i64 0, .int .u64 0]) := by kernel_rfl
end Go.Rx
/- The document's book, as data: orders, books, commands, events. -/
namespace Go.Rx
open Go Go.RowKit
set_option linter.unusedVariables false
set_option linter.unusedSimpArgs false
structure Rst where
  id : Nat
  member : Nat
  type : Int
  price : Int
  vis : Nat
  hid : Nat
  peak : Nat
deriving DecidableEq, Inhabited
def Rst.enc (r : Rst) : List Value := [.int .u64 (r.id : Int), .int .u32 (r.member : Int), .int .i64 r.type, .int .i64 r.price, .int .u64 (r.vis : Int), .int .u64 (r.hid : Int), .int .u64 (r.peak : Int)]
theorem Rst.eqL_enc (x y : Rst) : eqL x.enc y.enc = decide (x = y) := by
  cases x; cases y
  simp [Rst.enc, eqL, eqV, Bool.decide_and, Int.natCast_inj]
theorem rstOne : ∀ (x : Rst), ∀ u ∈ x.enc, u.oneCell' = true := by
  intro x u hu
  simp [Rst.enc] at hu
  rcases hu with rfl | rfl | rfl | rfl | rfl | rfl | rfl <;> rfl
def Rst.fits (r : Rst) : Prop := r.id < 18446744073709551616 ∧ r.member < 4294967296 ∧ r.vis < 18446744073709551616 ∧ r.hid < 18446744073709551616 ∧ r.peak < 18446744073709551616
structure Cmd where
  kind : Int
  id : Nat
  target : Nat
  member : Nat
  side : Int
  type : Int
  price : Int
  qty : Nat
  peak : Nat
deriving DecidableEq, Inhabited
def Cmd.enc (c : Cmd) : List Value := [.int .i64 c.kind, .int .u64 (c.id : Int), .int .u64 (c.target : Int), .int .u32 (c.member : Int), .int .i64 c.side, .int .i64 c.type, .int .i64 c.price, .int .u64 (c.qty : Int), .int .u64 (c.peak : Int)]
def Cmd.fits (c : Cmd) : Prop := c.id < 18446744073709551616 ∧ c.target < 18446744073709551616 ∧ c.member < 4294967296 ∧ c.qty < 18446744073709551616 ∧ c.peak < 18446744073709551616
structure Evt where
  seq : Nat
  kind : Int
  id : Nat
  other : Nat
  target : Nat
  member : Nat
  side : Int
  type : Int
  price : Int
  qty : Nat
  peak : Nat
  reason : Int
  code : Int
deriving DecidableEq, Inhabited
def Evt.enc (e : Evt) : List Value := [.int .u64 (e.seq : Int), .int .i64 e.kind, .int .u64 (e.id : Int), .int .u64 (e.other : Int), .int .u64 (e.target : Int), .int .u32 (e.member : Int), .int .i64 e.side, .int .i64 e.type, .int .i64 e.price, .int .u64 (e.qty : Int), .int .u64 (e.peak : Int), .int .i64 e.reason, .int .i64 e.code]
theorem Evt.eqL_enc (x y : Evt) : eqL x.enc y.enc = decide (x = y) := by
  cases x; cases y
  simp [Evt.enc, eqL, eqV, Bool.decide_and, Int.natCast_inj]
structure Lvl where
  price : Int
  qty : Nat
  count : Nat
deriving DecidableEq, Inhabited
def Lvl.enc (l : Lvl) : List Value := [.int .i64 l.price, .int .u64 (l.qty : Int), .int .i64 (l.count : Int)]
theorem Lvl.eqL_enc (x y : Lvl) : eqL x.enc y.enc = decide (x = y) := by
  cases x; cases y
  simp [Lvl.enc, eqL, eqV, Bool.decide_and, Int.natCast_inj]
theorem lvlOne : ∀ (x : Lvl), ∀ u ∈ x.enc, u.oneCell' = true := by
  intro x u hu
  simp [Lvl.enc] at hu
  rcases hu with rfl | rfl | rfl <;> rfl
structure Bk where
  cap : Int
  meet : Int
  buys : List Rst
  sells : List Rst
  high : Nat
  seq : Nat
deriving DecidableEq, Inhabited
def Bk.cells (b : Bk) (vb vs : Value) : List Value := [.int .i64 b.cap, .int .i64 b.meet, vb, vs, .int .u64 (b.high : Int), .int .u64 (b.seq : Int)]
def Bk.fits (b : Bk) : Prop := (∀ r ∈ b.buys, r.fits) ∧ (∀ r ∈ b.sells, r.fits) ∧ b.high < 18446744073709551616 ∧ b.seq < 18446744073709551616
/-! ### what can be -/
def configF (cap meet : Int) : Bool := decide (1 ≤ cap ∧ cap ≤ 4096 ∧ 0 ≤ meet ∧ meet ≤ 3)
def betterF (s p q : Int) : Bool := if s = 1 then decide (q < p) else decide (p < q)
def orderF (o : Rst) (high : Nat) : Bool :=
  decide ((1 ≤ o.id ∧ o.id ≤ high ∧ (o.type = 1 ∨ o.type = 5) ∧ 0 ≤ o.price ∧ o.price < 262144) ∧ (1 ≤ o.vis ∧ o.vis ≤ 4294967295 ∧ o.peak ≤ 4294967295 ∧ o.hid ≤ 4294967295 ∧ o.vis + o.hid ≤ 4294967295) ∧
    (if o.peak = 0 then o.hid = 0 else o.vis ≤ o.peak ∧ o.vis + o.hid ≤ 256 * o.peak))
def sortedP (s : Int) (l : List Rst) : Prop := ∀ i, 1 ≤ i → i < l.length → betterF s l[i]!.price l[i - 1]!.price = false
instance (s : Int) (l : List Rst) : Decidable (sortedP s l) :=
  decidable_of_iff (∀ i, i < l.length → 1 ≤ i → betterF s l[i]!.price l[i - 1]!.price = false) ⟨fun h i a b => h i b a, fun h i a b => h i b a⟩
def onceP (l : List Rst) : Prop := ∀ i, i < l.length → ∀ j, j < i → l[i]!.id ≠ l[j]!.id
instance (l : List Rst) : Decidable (onceP l) := inferInstanceAs (Decidable (∀ i, i < l.length → ∀ j, j < i → l[i]!.id ≠ l[j]!.id))
def crossP (b : Bk) : Prop := b.buys ≠ [] ∧ b.sells ≠ [] ∧ b.sells[0]!.price ≤ b.buys[0]!.price
instance (b : Bk) : Decidable (crossP b) := inferInstanceAs (Decidable (_ ∧ _ ∧ _))
def validP (b : Bk) : Prop := (configF b.cap b.meet = true ∧ b.buys.length ≤ 4096 ∧ b.sells.length ≤ 4096 ∧ ((b.buys.length + b.sells.length : Nat) : Int) ≤ b.cap) ∧ (∀ r ∈ b.buys ++ b.sells, orderF r b.high = true) ∧ (onceP (b.buys ++ b.sells) ∧ sortedP 1 b.buys ∧ sortedP 2 b.sells) ∧ ¬ crossP b
instance (b : Bk) : Decidable (validP b) := inferInstanceAs (Decidable (_ ∧ _ ∧ _ ∧ _))
def validF (b : Bk) : Int := if validP b then 0 else 120
end Go.Rx
/- The document's book: what an order, a side, a list can be. -/
namespace Go.Rx
open Go Go.RowKit
set_option linter.unusedVariables false
set_option linter.unusedSimpArgs false
set_option maxHeartbeats 1000000 in
set_option maxRecDepth 100000 in
theorem ref9Config {w : World} {cap meet : Int} : Spec Go.Proofs.Try.prog 78 #[.agg #[.int .i64 cap, .int .i64 meet]] w [] (fun u _ => u = .bool (configF cap meet)) := by
  refine Spec.enter (fn := Go.Proofs.Try.f78) (n := 21) [.agg #[.int .i64 cap, .int .i64 meet]] Go.Proofs.Try.func78 (by kernel_rfl) rfl Go.Proofs.Try.ntmps78 Go.Proofs.Try.results78 rfl (Own.nil _) ?_
  refine JC.rs ?_
  refine Seq.box (cs := [_, _]) (k := ?_); intro b1
  refine Seq.p rfl Ev.assign ?_
  refine Seq.nil ?_
  refine JC.rs ?_
  refine Seq.p rfl (Ev.faB fd.api_Config_0) ?_
  refine Seq.p rfl (Ev.ldB sc.int) ?_
  refine Seq.p rfl Ev.ge ?_
  refine Seq.p rfl Ev.move ?_
  refine Seq.andG (D := [6, 7, 8, 9, 10]) (d := 6) (t := 10) (k := 4) (hn := fun h6 => ?_) (hx := ?_)
  · repeat (first | refine Seq.gn rfl rfl rfl rfl ?_ | refine Seq.gu rfl rfl rfl ?_)
    refine Seq.p rfl Ev.pickF ?_
    exact Seq.nil ⟨rfl, (by repeat (first | with_reducible exact Off.refl | refine Off.upd ?_ rfl | exact Off.mix | refine Off.mix2 ?_ rfl)), Look.here⟩
  apply Exists.intro
  refine ⟨fun h6 => ?_, fun u10 => ?_⟩
  · try simp only [decide_eq_true_eq, decide_eq_false_iff_not, Bool.and_eq_true, Bool.or_eq_true, Bool.not_eq_true', Bool.not_eq_false', Bool.or_eq_false_iff, Bool.and_eq_false_imp] at h6
    refine Seq.gy rfl rfl rfl ?_
    refine Seq.p rfl (Ev.faB fd.api_Config_0) ?_
    refine Seq.gy rfl rfl rfl ?_
    refine Seq.p rfl (Ev.ldB sc.int) ?_
    refine Seq.gy rfl rfl rfl ?_
    refine Seq.p rfl Ev.le ?_
    refine Seq.p rfl Ev.pickT ?_
    exact Seq.nil ⟨rfl, (by repeat (first | with_reducible exact Off.refl | refine Off.upd ?_ rfl | exact Off.mix | refine Off.mix2 ?_ rfl)), Look.here⟩
  refine Seq.p rfl Ev.move ?_
  refine Seq.andG (D := [11, 12, 13, 14, 15]) (d := 11) (t := 15) (k := 4) (hn := fun h11 => ?_) (hx := ?_)
  · repeat (first | refine Seq.gn rfl rfl rfl rfl ?_ | refine Seq.gu rfl rfl rfl ?_)
    refine Seq.p rfl Ev.pickF ?_
    exact Seq.nil ⟨rfl, (by repeat (first | with_reducible exact Off.refl | refine Off.upd ?_ rfl | exact Off.mix | refine Off.mix2 ?_ rfl)), Look.here⟩
  apply Exists.intro
  refine ⟨fun h11 => ?_, fun u15 => ?_⟩
  · try simp only [decide_eq_true_eq, decide_eq_false_iff_not, Bool.and_eq_true, Bool.or_eq_true, Bool.not_eq_true', Bool.not_eq_false', Bool.or_eq_false_iff, Bool.and_eq_false_imp] at h11
    refine Seq.gy rfl rfl rfl ?_
    refine Seq.p rfl (Ev.faB fd.api_Config_1) ?_
    refine Seq.gy rfl rfl rfl ?_
    refine Seq.p rfl (Ev.ldB sc.int) ?_
    refine Seq.gy rfl rfl rfl ?_
    refine Seq.p rfl Ev.ge ?_
    refine Seq.p rfl Ev.pickT ?_
    exact Seq.nil ⟨rfl, (by repeat (first | with_reducible exact Off.refl | refine Off.upd ?_ rfl | exact Off.mix | refine Off.mix2 ?_ rfl)), Look.here⟩
  refine Seq.p rfl Ev.move ?_
  refine Seq.andG (D := [16, 17, 18, 19, 20]) (d := 16) (t := 20) (k := 4) (hn := fun h16 => ?_) (hx := ?_)
  · repeat (first | refine Seq.gn rfl rfl rfl rfl ?_ | refine Seq.gu rfl rfl rfl ?_)
    refine Seq.p rfl Ev.pickF ?_
    exact Seq.nil ⟨rfl, (by repeat (first | with_reducible exact Off.refl | refine Off.upd ?_ rfl | exact Off.mix | refine Off.mix2 ?_ rfl)), Look.here⟩
  apply Exists.intro
  refine ⟨fun h16 => ?_, fun u20 => ?_⟩
  · try simp only [decide_eq_true_eq, decide_eq_false_iff_not, Bool.and_eq_true, Bool.or_eq_true, Bool.not_eq_true', Bool.not_eq_false', Bool.or_eq_false_iff, Bool.and_eq_false_imp] at h16
    refine Seq.gy rfl rfl rfl ?_
    refine Seq.p rfl (Ev.faB fd.api_Config_1) ?_
    refine Seq.gy rfl rfl rfl ?_
    refine Seq.p rfl (Ev.ldB sc.int) ?_
    refine Seq.gy rfl rfl rfl ?_
    refine Seq.p rfl Ev.le ?_
    refine Seq.p rfl Ev.pickT ?_
    exact Seq.nil ⟨rfl, (by repeat (first | with_reducible exact Off.refl | refine Off.upd ?_ rfl | exact Off.mix | refine Off.mix2 ?_ rfl)), Look.here⟩
  refine Seq.p rfl Ev.assign ?_
  refine Seq.nil ?_
  refine JC.ret ?_
  show retQ _ _ _ _ _ _ _ _
  refine ret1 (hp := Part.nil _) (hpost := ?_)
  simp [configF, Bool.decide_and, Bool.and_assoc]
abbrev rstL (v : Value) (l : List Rst) : Chunk := .own 42 7 v l.length (l.flatMap Rst.enc)
end Go.Rx
/- The document's book: Valid, Copy, New, Load. -/
namespace Go.Rx
open Go Go.RowKit
set_option linter.unusedVariables false
set_option linter.unusedSimpArgs false
set_option maxHeartbeats 1000000 in
set_option maxRecDepth 100000 in
theorem ref9Copy {w : World} {vb vs : Value} {b : Bk} (hb : RSl Rst.enc 7 w [] vb b.buys) (hs : RSl Rst.enc 7 w [] vs b.sells) (hlb : b.buys.length * 56 ≤ 140737488355328) (hls : b.sells.length * 56 ≤ 140737488355328) :
    Spec Go.Proofs.Try.prog 43 #[.agg (b.cells vb vs).toArray] w [] (fun u H' => ∃ A1 c1 A2 c2, u = .agg (b.cells (.slice A1 b.buys.length c1) (.slice A2 b.sells.length c2)).toArray ∧ H' = [rstL (.slice A2 b.sells.length c2) b.sells, rstL (.slice A1 b.buys.length c1) b.buys]) := by
  have hbs := hb.small
  have hss := hs.small
  refine Spec.enter (fn := Go.Proofs.Try.f43) (n := 14) [.agg (b.cells vb vs).toArray] Go.Proofs.Try.func43 (by kernel_rfl) rfl Go.Proofs.Try.ntmps43 Go.Proofs.Try.results43 rfl (Own.nil _) ?_
  refine JC.rs ?_
  refine Seq.box (cs := [_, _, _, _, _, _]) (k := ?_); intro b1
  refine Seq.alloc (cs := [_, _, _, _, _, _]) (hz := z.api_Book) (k := ?_); intro b2
  refine Seq.nil ?_
  refine JC.rs ?_
  refine Seq.buildSl (cs := []) (hsl := sl.sl_api_Resting) (hz := z.api_Resting) (hcs := rfl) (k := ?_); intro b3
  refine Seq.re (fun w h => Upd.boxOwn h (n := 0) (size := 7) At.z rfl (by omega)) ?_
  refine Seq.p rfl (Ev.faB fd.api_Book_1) ?_
  refine Seq.p rfl (Ev.ldB sc.sl_api_Resting) ?_
  refine Seq.append (j := b.buys.length) (hsl := sl.sl_api_Resting) (he := el.api_Resting) (hH := At.z) (hsrc := fun w' hw => Src.rsl sl.sl_api_Resting (hb.up hw) (by omega) rstOne) (k := ?_); intro A6 c6
  rw [Nat.zero_add b.buys.length, List.nil_append]
  refine Seq.p rfl (Ev.faB fd.api_Book_1) ?_
  refine Seq.storeN [_, _, _, _, _, _] sz.sl_api_Resting (k := ?_)
  refine Seq.nil ?_
  refine JC.rs ?_
  refine Seq.buildSl (cs := []) (hsl := sl.sl_api_Resting) (hz := z.api_Resting) (hcs := rfl) (k := ?_); intro b8
  refine Seq.re (fun w h => Upd.boxOwn h (n := 0) (size := 7) At.z rfl (by omega)) ?_
  refine Seq.p rfl (Ev.faB fd.api_Book_2) ?_
  refine Seq.p rfl (Ev.ldB sc.sl_api_Resting) ?_
  refine Seq.append (j := b.sells.length) (hsl := sl.sl_api_Resting) (he := el.api_Resting) (hH := At.z) (hsrc := fun w' hw => Src.rsl sl.sl_api_Resting (hs.up hw) (by omega) rstOne) (k := ?_); intro A11 c11
  rw [Nat.zero_add b.sells.length, List.nil_append]
  refine Seq.p rfl (Ev.faB fd.api_Book_2) ?_
  refine Seq.storeN [_, _, _, _, _, _] sz.sl_api_Resting (k := ?_)
  refine Seq.nil ?_
  refine JC.rs ?_
  refine Seq.p rfl (Ev.ldBA ag.api_Book) ?_
  refine Seq.storeN [_, _, _, _, _, _] sz.api_Book (k := ?_)
  refine Seq.nil ?_
  refine JC.ret ?_
  show retQ _ _ _ _ _ _ _ _
  refine retB1 ag.api_Book (hp := show Part [rstL (.slice A11 b.sells.length c11) b.sells, rstL (.slice A6 b.buys.length c6) b.buys] _ from by repeat (first | exact Part.nil _ | refine Part.at (by repeat (first | exact At.z | apply At.s)) ?_)) (hpost := ?_)
  exact ⟨A6, c6, A11, c11, rfl, rfl⟩
def Bk.empty (cap meet : Int) : Bk := ⟨cap, meet, [], [], 0, 0⟩
def loadF (was x : Bk) : Bk × Int := if validP x then (x, 0) else (Bk.empty was.cap was.meet, 120)
end Go.Rx
/- The document's book: lists taken apart and put together. -/
namespace Go.Rx
open Go Go.RowKit
set_option linter.unusedVariables false
set_option linter.unusedSimpArgs false
def newF (cap meet : Int) : Bk × Int := if configF cap meet = true then (Bk.empty cap meet, 0) else (Bk.empty 0 0, 1)
set_option maxHeartbeats 1000000 in
set_option maxRecDepth 100000 in
theorem ref9New {w : World} {cap meet : Int} : Spec Go.Proofs.Try.prog 42 #[.agg #[.int .i64 cap, .int .i64 meet]] w [] (fun u _ => u = .tuple #[.agg ((newF cap meet).1.cells (.slice none 0 0) (.slice none 0 0)).toArray, .int .i64 (newF cap meet).2]) := by
  refine Spec.enter (fn := Go.Proofs.Try.f42) (n := 10) [.agg #[.int .i64 cap, .int .i64 meet]] Go.Proofs.Try.func42 (by kernel_rfl) rfl Go.Proofs.Try.ntmps42 Go.Proofs.Try.results42 rfl (Own.nil _) ?_
  refine JC.rs ?_
  refine Seq.box (cs := [_, _]) (k := ?_); intro b1
  refine Seq.alloc (cs := [_, _, _, _, _, _]) (hz := z.api_Book) (k := ?_); intro b2
  refine Seq.p rfl Ev.assign ?_
  refine Seq.nil ?_
  refine JC.seq ?_
  refine JC.rs ?_
  refine Seq.p rfl (Ev.ldBA ag.api_Config) ?_
  refine Seq.callP rfl (fun w hw => ref9Config (cap := cap) (meet := meet)) ?_
  refine Seq.p rfl Ev.not ?_
  refine Seq.nil ?_
  first | refine JC.c (ht := fun c6 => ?_) (hf := fun c6 => ?_) | refine JC.cb (ht := fun c6 => ?_) (hf := fun c6 => ?_)
  · -- then_t6
    refine JC.rs ?_
    refine Seq.p rfl (Ev.buildN [_, _, _, _, _, _] pl.api_Book z.api_Book) ?_
    refine Seq.storeN [_, _, _, _, _, _] sz.api_Book (k := ?_)
    refine Seq.p rfl Ev.assign ?_
    refine Seq.nil ?_
    refine JC.ret ?_
    show retQ _ _ _ _ _ _ _ _
    refine retB2 ag.api_Book (hp := Part.nil _) (hpost := ?_)
    rw [show newF cap meet = (Bk.empty 0 0, 1) from if_neg (by simpa using c6)]
    rfl
  · -- else_t6
    refine JC.skip ?_
    refine JC.rs ?_
    refine Seq.p rfl (Ev.ldBA ag.api_Config) ?_
    refine Seq.p rfl (Ev.buildN [_, _, _, _, _, _] pl.api_Book z.api_Book) ?_
    refine Seq.storeN [_, _, _, _, _, _] sz.api_Book (k := ?_)
    refine Seq.p rfl Ev.assign ?_
    refine Seq.nil ?_
    refine JC.ret ?_
    show retQ _ _ _ _ _ _ _ _
    refine retB2 ag.api_Book (hp := Part.nil _) (hpost := ?_)
    rw [show newF cap meet = (Bk.empty cap meet, 0) from if_pos (by simpa using c6)]
    rfl
def sideF (b : Bk) (s : Int) : List Rst := if s = 1 then b.buys else if s = 2 then b.sells else []
def sideV (vb vs : Value) (s : Int) : Value := if s = 1 then vb else if s = 2 then vs else .slice none 0 0
theorem RSl.side {w : World} {C : List Chunk} {vb vs : Value} {b : Bk} (hb : RSl Rst.enc 7 w C vb b.buys) (hs : RSl Rst.enc 7 w C vs b.sells) (s : Int) : RSl Rst.enc 7 w C (sideV vb vs s) (sideF b s) := by
  unfold sideV sideF
  split
  · exact hb
  · split
    · exact hs
    · exact RSl.empty _ _ _ _
set_option maxHeartbeats 1000000 in
set_option maxRecDepth 100000 in
theorem ref9side {w : World} {vb vs : Value} {b : Bk} {s : Int} : Spec Go.Proofs.Try.prog 84 #[.agg (b.cells vb vs).toArray, .int .i64 s] w [] (fun u _ => u = sideV vb vs s) := by
  refine Spec.enter (fn := Go.Proofs.Try.f84) (n := 13) [.agg (b.cells vb vs).toArray, .int .i64 s] Go.Proofs.Try.func84 (by kernel_rfl) rfl Go.Proofs.Try.ntmps84 Go.Proofs.Try.results84 rfl (Own.nil _) ?_
  refine JC.rs ?_
  refine Seq.box (cs := [_, _, _, _, _, _]) (k := ?_); intro b2
  refine Seq.p rfl Ev.assign ?_
  refine Seq.nil ?_
  refine JC.seq ?_
  refine JC.rs ?_
  refine Seq.p rfl Ev.move ?_
  refine Seq.p rfl Ev.eq ?_
  refine Seq.nil ?_
  first | refine JC.c (ht := fun c6 => ?_) (hf := fun c6 => ?_) | refine JC.cb (ht := fun c6 => ?_) (hf := fun c6 => ?_)
  · -- then_t6
    refine JC.rs ?_
    refine Seq.p rfl (Ev.faB fd.api_Book_1) ?_
    refine Seq.p rfl (Ev.ldB sc.sl_api_Resting) ?_
    refine Seq.p rfl Ev.assign ?_
    refine Seq.nil ?_
    refine JC.ret ?_
    show retQ _ _ _ _ _ _ _ _
    refine ret1 (hp := Part.nil _) (hpost := ?_)
    rw [sideV, if_pos c6]
  · -- else_t6
    refine JC.skip ?_
    refine JC.seq ?_
    refine JC.rs ?_
    refine Seq.p rfl Ev.move ?_
    refine Seq.p rfl Ev.eq ?_
    refine Seq.nil ?_
    first | refine JC.c (ht := fun c10 => ?_) (hf := fun c10 => ?_) | refine JC.cb (ht := fun c10 => ?_) (hf := fun c10 => ?_)
    · -- then_t10
      refine JC.rs ?_
      refine Seq.p rfl (Ev.faB fd.api_Book_2) ?_
      refine Seq.p rfl (Ev.ldB sc.sl_api_Resting) ?_
      refine Seq.p rfl Ev.assign ?_
      refine Seq.nil ?_
      refine JC.ret ?_
      show retQ _ _ _ _ _ _ _ _
      refine ret1 (hp := Part.nil _) (hpost := ?_)
      rw [sideV, if_neg c6, if_pos c10]
    · -- else_t10
      refine JC.skip ?_
      refine JC.rs ?_
      refine Seq.p rfl Ev.assign ?_
      refine Seq.nil ?_
      refine JC.ret ?_
      show retQ _ _ _ _ _ _ _ _
      refine ret1 (hp := Part.nil _) (hpost := ?_)
      rw [sideV, if_neg c6, if_neg c10]
def withF (b : Bk) (s : Int) (l : List Rst) : Bk := if s = 1 then { b with buys := l } else { b with sells := l }
def findF (b : Bk) (id : Nat) : Rst × Int × Bool := match b.buys.find? fun r => decide (r.id = id) with
  | some r => (r, 1, true)
  | none => match b.sells.find? fun r => decide (r.id = id) with
    | some r => (r, 2, true)
    | none => (default, 0, false)
theorem find_hit {l : List Rst} {id i : Nat} (hi : i < l.length) (h : l[i]!.id = id) (hb : ∀ j, j < i → l[j]!.id ≠ id) : (l.find? fun r => decide (r.id = id)) = some l[i]! := by
  rw [List.find?_eq_some_iff_getElem]
  refine ⟨by simpa using h, i, hi, (getElem!_pos l i hi).symm, fun j hj => ?_⟩
  have := hb j hj
  rw [getElem!_pos l j (by omega)] at this
  simpa using this
theorem find_miss {l : List Rst} {id : Nat} (hb : ∀ j, j < l.length → l[j]!.id ≠ id) : (l.find? fun r => decide (r.id = id)) = none := by
  rw [List.find?_eq_none]
  intro r hr
  obtain ⟨j, hj, rfl⟩ := List.getElem_of_mem hr
  have := hb j hj
  rw [getElem!_pos l j hj] at this
  simpa using this
set_option maxHeartbeats 1000000 in
set_option maxRecDepth 100000 in
theorem ref9Find {w : World} {vb vs : Value} {b : Bk} {id : Nat} (hb : RSl Rst.enc 7 w [] vb b.buys) (hs : RSl Rst.enc 7 w [] vs b.sells) : Spec Go.Proofs.Try.prog 54 #[.agg (b.cells vb vs).toArray, .int .u64 (id : Int)] w [] (fun u _ => u = .tuple #[.agg (findF b id).1.enc.toArray, .int .i64 (findF b id).2.1, .bool (findF b id).2.2]) := by
  have hS := fun s => RSl.side hb hs s
  refine Spec.enter (fn := Go.Proofs.Try.f54) (n := 36) [.agg (b.cells vb vs).toArray, .int .u64 (id : Int)] Go.Proofs.Try.func54 (by kernel_rfl) rfl Go.Proofs.Try.ntmps54 Go.Proofs.Try.results54 rfl (Own.nil _) ?_
  refine JC.rs ?_
  refine Seq.box (cs := [_, _, _, _, _, _]) (k := ?_); intro b2
  refine Seq.alloc (cs := [_, _, _, _, _, _, _]) (hz := z.api_Resting) (k := ?_); intro b4
  refine Seq.p rfl Ev.assign ?_
  refine Seq.p rfl Ev.assign ?_
  refine Seq.nil ?_
  refine JC.seq ?_
  refine JC.rs ?_
  refine Seq.p rfl Ev.assign ?_
  refine Seq.nil ?_
  refine JC.blk ?_
  refine JC.loop (α := Nat) (I := fun s e1 H1 => Has [5, 6, 7, 8, 9, 10, 11, 12, 13, 14, 15, 16, 17, 18, 19, 20, 21, 22, 23, 24, 25, 26, 27, 28, 29, 30, 31, 32, 33, 34] [(7, .int .i64 (s : Int))] _ e1 ∧ H1 = [.box b4 42 (Rst.enc default), .box b2 49 (b.cells vb vs)] ∧ 1 ≤ s ∧ s ≤ 3 ∧ ∀ q : Nat, 1 ≤ q → q < s → ∀ j, j < (sideF b q).length → (sideF b q)[j]!.id ≠ id) (μ := fun s => 4 - s) 1 ⟨Has.mk Off.refl (allLook_cons (by repeat (first | exact Look.here | apply Look.there (hne := rfl) | exact Look.const | apply Look.mix rfl | exact Look.arg0 | apply Look.args | exact Look.func)) allLook_nil), rfl, by omega, by omega, fun q h1 h2 => by omega⟩ ?_
  rintro s _ _ ⟨⟨u, rfl⟩, rfl, hs1, hs2, hI⟩; dsimp only [setL]
  refine JC.seq ?_
  refine JC.rs ?_
  refine Seq.p rfl Ev.move ?_
  refine Seq.p rfl Ev.le ?_
  refine Seq.nil ?_
  first | refine JC.c (ht := fun c11 => ?_) (hf := fun c11 => ?_) | refine JC.cb (ht := fun c11 => ?_) (hf := fun c11 => ?_)
  · -- then_t11
    refine JC.skip ?_
    refine JC.seq ?_
    refine JC.blk ?_
    refine JC.rs ?_
    refine Seq.p rfl (Ev.ldBA ag.api_Book) ?_
    refine Seq.p rfl Ev.move ?_
    refine Seq.callP rfl (fun w hw => ref9side (b := b) (vb := vb) (vs := vs) (s := s)) ?_
    refine Seq.p rfl Ev.assign ?_
    refine Seq.nil ?_
    refine JC.rs ?_
    refine Seq.p rfl Ev.assign ?_
    refine Seq.nil ?_
    refine JC.blk ?_
    have hsm := (hS s).small
    refine JC.loop (α := Nat) (I := fun i e1 H1 => Has [5, 6, 9, 17, 18, 19, 20, 21, 22, 23, 24, 25, 26, 27, 28, 29, 30, 31, 32, 33, 34] [(9, .int .i64 (i : Int))] _ e1 ∧ H1 = [.box b4 42 (Rst.enc default), .box b2 49 (b.cells vb vs)] ∧ ∀ j, j < i → j < (sideF b s).length → (sideF b s)[j]!.id ≠ id) (μ := fun i => (sideF b s).length + 1 - i) 0 ⟨Has.mk Off.refl (allLook_cons (by repeat (first | exact Look.here | apply Look.there (hne := rfl) | exact Look.const | apply Look.mix rfl | exact Look.arg0 | apply Look.args | exact Look.func)) allLook_nil), rfl, fun j h => by omega⟩ ?_
    rintro i _ _ ⟨⟨u, rfl⟩, rfl, hJ⟩; dsimp only [setL]
    refine JC.seq ?_
    refine JC.rs ?_
    refine Seq.p rfl Ev.move ?_
    refine Seq.p rfl Ev.move ?_
    refine Seq.p rfl (Ev.lenSl sl.sl_api_Resting (hr := (hS s).r)) ?_
    refine Seq.p rfl Ev.lt ?_
    refine Seq.nil ?_
    first | refine JC.c (ht := fun c20 => ?_) (hf := fun c20 => ?_) | refine JC.cb (ht := fun c20 => ?_) (hf := fun c20 => ?_)
    · -- then_t20
      have hi2 : i < (sideF b s).length := by omega
      refine JC.skip ?_
      refine JC.seq ?_
      refine JC.blk ?_
      refine JC.rs ?_
      refine Seq.p rfl Ev.move ?_
      refine Seq.p rfl Ev.move ?_
      refine Seq.p rfl (Ev.iaN sl.sl_api_Resting (hr := (hS s).r)) ?_
      refine Seq.p rfl (Ev.fa fd.api_Resting_0) ?_
      refine Seq.p rfl (Ev.ldE sc.uint64 (hr := (hS s).r)) ?_
      refine Seq.p rfl Ev.move ?_
      refine Seq.p rfl Ev.eq ?_
      refine Seq.nil ?_
      first | refine JC.c (ht := fun c29 => ?_) (hf := fun c29 => ?_) | refine JC.cb (ht := fun c29 => ?_) (hf := fun c29 => ?_)
      · -- then_t29
        have hid : (sideF b s)[i]!.id = id := by omega
        refine JC.rs ?_
        refine Seq.p rfl Ev.move ?_
        refine Seq.p rfl Ev.move ?_
        refine Seq.p rfl (Ev.iaN sl.sl_api_Resting (hr := (hS s).r)) ?_
        refine Seq.p rfl (Ev.ldEA ag.api_Resting (hr := (hS s).r)) ?_
        refine Seq.p rfl Ev.move ?_
        refine Seq.storeN [_, _, _, _, _, _, _] sz.api_Resting (k := ?_)
        refine Seq.p rfl Ev.assign ?_
        refine Seq.p rfl Ev.assign ?_
        refine Seq.nil ?_
        refine JC.ret ?_
        show retQ _ _ _ _ _ _ _ _
        refine retB3 ag.api_Resting (hp := Part.nil _) (hpost := ?_)
        have hs3 : s = 1 ∨ s = 2 := by omega
        rcases hs3 with rfl | rfl
        · have h := find_hit (l := b.buys) hi2 hid (fun j hj => hJ j hj (Nat.lt_trans hj hi2))
          unfold findF
          rw [h]
          rfl
        · have h1 := find_miss (l := b.buys) (id := id) (fun j hj => hI 1 (by omega) (by omega) j hj)
          have h := find_hit (l := b.sells) hi2 hid (fun j hj => hJ j hj (Nat.lt_trans hj hi2))
          unfold findF
          rw [h1]
          dsimp only
          rw [h]
          rfl
      · -- else_t29
        refine JC.skip ?_
        refine JC.reg ?_
        refine Seq.p rfl Ev.move ?_
        refine Seq.p rfl (by first | exact Ev.inc | exact Ev.add) ?_
        refine Seq.p rfl Ev.assign ?_
        refine Seq.nil ?_
        exact ⟨i + 1, _, Part.refl _, ⟨Has.mk (by repeat (first | refine Off.upd ?_ rfl | exact Off.mix | refine Off.mix2 ?_ rfl | exact Off.refl)) (allLook_cons (by repeat (first | exact Look.here | apply Look.there (hne := rfl) | exact Look.const | apply Look.mix rfl | exact Look.arg0 | apply Look.args | exact Look.func)) allLook_nil), rfl, fun j h1 h2 => by
          rcases Nat.lt_or_ge j i with h4 | h4
          · exact hJ j h4 h2
          · rw [show j = i by omega]; omega⟩, by omega⟩
    · -- else_t20
      refine JC.exit ?_ -- 2
      refine JC.reg ?_
      refine Seq.p rfl Ev.move ?_
      refine Seq.p rfl (by first | exact Ev.inc | exact Ev.add) ?_
      refine Seq.p rfl Ev.assign ?_
      refine Seq.nil ?_
      exact ⟨s + 1, _, Part.refl _, ⟨Has.mk (by repeat (first | refine Off.upd ?_ rfl | exact Off.mix | refine Off.mix2 ?_ rfl | exact Off.refl)) (allLook_cons (by repeat (first | exact Look.here | apply Look.there (hne := rfl) | exact Look.const | apply Look.mix rfl | exact Look.arg0 | apply Look.args | exact Look.func)) allLook_nil), rfl, by omega, by omega, fun q h1 h2 j h3 => by
        rcases Nat.lt_or_ge q s with h4 | h4
        · exact hI q h1 h4 j h3
        · obtain rfl : q = s := by omega
          exact hJ j (by omega) h3⟩, by omega⟩
  · -- else_t11
    refine JC.exit ?_ -- 0
    refine JC.rs ?_
    refine Seq.p rfl (Ev.buildN [_, _, _, _, _, _, _] pl.api_Resting z.api_Resting) ?_
    refine Seq.storeN [_, _, _, _, _, _, _] sz.api_Resting (k := ?_)
    refine Seq.p rfl Ev.assign ?_
    refine Seq.p rfl Ev.assign ?_
    refine Seq.nil ?_
    refine JC.ret ?_
    show retQ _ _ _ _ _ _ _ _
    refine retB3 ag.api_Resting (hp := Part.nil _) (hpost := ?_)
    have h1 := find_miss (l := b.buys) (id := id) (fun j hj => hI 1 (by omega) (by omega) j hj)
    have h2 := find_miss (l := b.sells) (id := id) (fun j hj => hI 2 (by omega) (by omega) j hj)
    unfold findF
    rw [h1]
    dsimp only
    rw [h2]
    rfl
def withoutF (l : List Rst) (id : Nat) : List Rst := l.filter fun r => decide (r.id ≠ id)
end Go.Rx
/- What is handed in: a config, a command, rows of commands. -/
namespace Go.Rx
open Go Go.RowKit Go.WideShapes
set_option linter.unusedVariables false
set_option linter.unusedSimpArgs false
set_option maxRecDepth 100000 in
theorem open_cfg {H : Type} {enc : TypeId × Value → H} {W : World} {base : Nat} {v : Value} {d : DataW H} {p : List MemPlace} (hv : Value.okWide Go.Proofs.Try.prog W .any base 23 v) (h : DataW.Trod enc Go.Proofs.Try.prog W 0 (fun _ => true) true 23 v d p) :
    ∃ cap meet : Int, v = .agg #[.int .i64 cap, .int .i64 meet] := by
  obtain ⟨cs, rfl, hcs⟩ := okWide_struct Go.Proofs.Try.underlying23 hv
  obtain ⟨fuel, hf⟩ := h
  have hp := trod_plain 20 _ _ so.api_Config fuel _ _ hf
  have e : (Value.agg cs).cells.toList = cs.toList := rfl
  rw [e] at hp
  obtain ⟨ha, hb⟩ := hp
  obtain ⟨c0, r0, q0, i0, ha⟩ := areSorts_cons ha
  obtain ⟨c1, r1, rfl, i1, ha⟩ := areSorts_cons ha
  obtain rfl := areSorts_nil ha
  obtain ⟨n0, rfl⟩ := isSort_int i0
  obtain ⟨n1, rfl⟩ := isSort_int i1
  refine ⟨n0, n1, ?_⟩
  congr 1
  apply Array.ext'
  rw [q0]
end Go.Rx
/- The tree of the levels: heights and sizes. -/
namespace Go.Rx
open Go Go.RowKit
set_option linter.unusedVariables false
set_option linter.unusedSimpArgs false
section
variable {P : Program} {n : Nat} {w0 : World} {Cs H : List Chunk} {e : Env} {Q : Exit → Env → List Chunk → Prop}
def rounds (P : Program) (n : Nat) (w0 : World) (Cs : List Chunk) (c : Code) : Nat → List Chunk → Env → (Exit → Env → List Chunk → Prop) → Prop
  | 0, _, _, _ => False
  | m + 1, H, e, Q => JC P n w0 Cs c H e (thenQ (fun e' H' => rounds P n w0 Cs c m H' e' Q) Q)
theorem JC.round {c : Code} {m : Nat} (h : JC P n w0 Cs c H e (thenQ (fun e' H' => rounds P n w0 Cs c m H' e' Q) Q)) : rounds P n w0 Cs c (m + 1) H e Q := h
theorem JC.loopN {c : Code} (m : Nat) (h : rounds P n w0 Cs c m H e Q) : JC P n w0 Cs (.loop c) H e Q := by
  refine JC.loop (α := Nat) (fun m e H => rounds P n w0 Cs c m H e Q) id m h ?_
  intro m e H h
  cases m with
  | zero => exact h.elim
  | succ m =>
    refine JC.mono h ?_
    intro x e' H' hq
    cases x with
    | normal => exact ⟨m, H', Part.refl _, hq, Nat.lt_succ_self _⟩
    | _ => exact hq
end
theorem Own.cell {w : World} {L : List Chunk} {b off : Nat} {T : TypeId} {cs : List Value} {v : Value} (h : Own w L) (hm : Chunk.box b T cs ∈ L) (hv : cs[off]? = some v) : Cell w [] ⟨b, off, none⟩ v := by
  obtain ⟨i, hi⟩ := List.getElem?_of_mem hm
  exact box_cell (Upd.refl h) ⟨hi⟩ hv
abbrev nodeT : TypeId := 186
theorem tree_cell {w : World} {T : TypeId} {a : Nat} {k : Int} {v : Value} {l r : Tr} {off : Nat} {u : Value} (h : Own w [treeC T (.node a k v l r)])
    (hv : ([.int .i64 k, v, .int .i64 ((1 + max l.high r.high : Nat) : Int), .int .i64 ((1 + l.size + r.size : Nat) : Int), l.ptr, r.ptr] : List Value)[off]? = some u) : Cell w [] ⟨a, off, none⟩ u := by
  have h2 : Own w ([nodeC T a k v (1 + max l.high r.high) (1 + l.size + r.size) l.ptr r.ptr, treeC T l, treeC T r] ++ []) := Own.unpk h
  exact h2.cell List.mem_cons_self hv
set_option maxHeartbeats 1000000 in
set_option maxRecDepth 100000 in
theorem avlHigh {w : World} {t : Tr} (hO : Own w [treeC nodeT t]) : Spec Go.Proofs.Try.prog 99 #[t.ptr] w [] (fun u _ => u = .int .i64 (t.high : Int)) := by
  refine Spec.enter (fn := Go.Proofs.Try.f99) (n := 9) [.pointer t.adr] Go.Proofs.Try.func99 (by kernel_rfl) rfl Go.Proofs.Try.ntmps99 Go.Proofs.Try.results99 rfl (Own.nil _) ?_
  refine JC.rs ?_
  refine Seq.p rfl Ev.assign ?_
  refine Seq.nil ?_
  refine JC.seq ?_
  refine JC.rs ?_
  refine Seq.p rfl Ev.move ?_
  refine Seq.p rfl (Ev.eqNilP und.p_avl_node_treebook_level) ?_
  refine Seq.nil ?_
  first | refine JC.c (ht := fun c4 => ?_) (hf := fun c4 => ?_) | refine JC.cb (ht := fun c4 => ?_) (hf := fun c4 => ?_)
  · -- then_t4
    obtain rfl := Tr.adr_none c4
    refine JC.rs ?_
    refine Seq.p rfl Ev.assign ?_
    refine Seq.nil ?_
    refine JC.ret ?_
    show retQ _ _ _ _ _ _ _ _
    refine ret1 (hp := Part.nil _) (hpost := ?_)
    rfl
  · -- else_t4
    obtain ⟨a, k, v, l, r, rfl⟩ := Tr.adr_some c4
    refine JC.skip ?_
    refine JC.rs ?_
    refine Seq.p rfl Ev.move ?_
    refine Seq.p rfl (Ev.nilP (ad := ⟨a, 0, none⟩)) ?_
    refine Seq.p rfl (Ev.faB fd.avl_node_treebook_level_2 (bk := a) (o := 0)) ?_
    refine Seq.p rfl (Ev.ldS sc.int (Cells.cell (tree_cell hO rfl))) ?_
    refine Seq.p rfl Ev.assign ?_
    refine Seq.nil ?_
    refine JC.ret ?_
    show retQ _ _ _ _ _ _ _ _
    refine ret1 (hp := Part.nil _) (hpost := ?_)
    rfl
set_option maxHeartbeats 1000000 in
set_option maxRecDepth 100000 in
theorem avlSize {w : World} {t : Tr} (hO : Own w [treeC nodeT t]) : Spec Go.Proofs.Try.prog 98 #[t.ptr] w [] (fun u _ => u = .int .i64 (t.size : Int)) := by
  refine Spec.enter (fn := Go.Proofs.Try.f98) (n := 9) [.pointer t.adr] Go.Proofs.Try.func98 (by kernel_rfl) rfl Go.Proofs.Try.ntmps98 Go.Proofs.Try.results98 rfl (Own.nil _) ?_
  refine JC.rs ?_
  refine Seq.p rfl Ev.assign ?_
  refine Seq.nil ?_
  refine JC.seq ?_
  refine JC.rs ?_
  refine Seq.p rfl Ev.move ?_
  refine Seq.p rfl (Ev.eqNilP und.p_avl_node_treebook_level) ?_
  refine Seq.nil ?_
  first | refine JC.c (ht := fun c4 => ?_) (hf := fun c4 => ?_) | refine JC.cb (ht := fun c4 => ?_) (hf := fun c4 => ?_)
  · -- then_t4
    obtain rfl := Tr.adr_none c4
    refine JC.rs ?_
    refine Seq.p rfl Ev.assign ?_
    refine Seq.nil ?_
    refine JC.ret ?_
    show retQ _ _ _ _ _ _ _ _
    refine ret1 (hp := Part.nil _) (hpost := ?_)
    rfl
  · -- else_t4
    obtain ⟨a, k, v, l, r, rfl⟩ := Tr.adr_some c4
    refine JC.skip ?_
    refine JC.rs ?_
    refine Seq.p rfl Ev.move ?_
    refine Seq.p rfl (Ev.nilP (ad := ⟨a, 0, none⟩)) ?_
    refine Seq.p rfl (Ev.faB fd.avl_node_treebook_level_3 (bk := a) (o := 0)) ?_
    refine Seq.p rfl (Ev.ldS sc.int (Cells.cell (tree_cell hO rfl))) ?_
    refine Seq.p rfl Ev.assign ?_
    refine Seq.nil ?_
    refine JC.ret ?_
    show retQ _ _ _ _ _ _ _ _
    refine ret1 (hp := Part.nil _) (hpost := ?_)
    rfl
def wasV : Tr → Value
  | .nil => .pointer none
  | .node _ _ v _ _ => v
end Go.Rx
/- The tree of the levels: a node reckoned anew, turned, made flat. -/
namespace Go.Rx
open Go Go.RowKit
set_option linter.unusedVariables false
set_option linter.unusedSimpArgs false
theorem treeC_node (T : TypeId) (a : Nat) (k : Int) (v : Value) (l r : Tr) : treeC T (.node a k v l r) = .pk [nodeC T a k v (1 + max l.high r.high) (1 + l.size + r.size) l.ptr r.ptr, treeC T l, treeC T r] := rfl
end Go.Rx
/- The tree of the levels: a node made flat. -/
namespace Go.Rx
open Go Go.RowKit
set_option linter.unusedVariables false
set_option linter.unusedSimpArgs false
end Go.Rx
/- The tree of the levels: the way to a key. -/
namespace Go.Rx
open Go Go.RowKit
set_option linter.unusedVariables false
set_option linter.unusedSimpArgs false
abbrev pathT : TypeId := 182
end Go.Rx
/- The tree of the levels: the way to a key, found. -/
namespace Go.Rx
open Go Go.RowKit
set_option linter.unusedVariables false
set_option linter.unusedSimpArgs false
def pathZ : List Value := List.replicate 96 (.pointer none) ++ [.int .i64 0]
def WayPost (tb k : Nat) (TB : TypeId) (cs : List Value) (x : List Fr × Tr) (u : Value) (H' : List Chunk) : Prop :=
  ∃ b ps, u = .pointer (some ⟨b, 0, none⟩) ∧ ps.length = 97 ∧ ps[96]? = some (.int .i64 ((x.1.length + 1 : Nat) : Int)) ∧ Lk (.pointer (some ⟨tb, k, none⟩)) x.1 ps ∧
    H' = [.box b pathT ps, .box tb TB cs, ctxC nodeT x.1 x.2.adr, treeC nodeT x.2]
end Go.Rx
/- The tree of the levels: all nodes on the way made flat. -/
namespace Go.Rx
open Go Go.RowKit
set_option linter.unusedVariables false
set_option linter.unusedSimpArgs false
def UpPost (b tb k : Nat) (TB : TypeId) (cs : List Value) (R : Tr) (H' : List Chunk) : Prop := ∃ ps, H' = [.box b pathT ps, .box tb TB (cs.set k R.ptr), treeC nodeT R]
end Go.Rx
/- The tree of the levels: a value put under a new key. -/
namespace Go.Rx
open Go Go.RowKit
set_option linter.unusedVariables false
set_option linter.unusedSimpArgs false
def PutPost (tb k : Nat) (TB : TypeId) (cs : List Value) (fs : List Fr) (key : Int) (v : Value) (u : Value) (H' : List Chunk) : Prop :=
  ∃ a, u = .tuple #[.pointer none, .bool false] ∧ H' = [.box tb TB (cs.set k (rebF fs (Tr.flat (.node a key v .nil .nil))).ptr), treeC nodeT (rebF fs (Tr.flat (.node a key v .nil .nil)))]
end Go.Rx
/- The tree of the levels: what is asked of it. -/
namespace Go.Rx
open Go Go.RowKit
set_option linter.unusedVariables false
set_option linter.unusedSimpArgs false
theorem ownUp {w w' : World} {L H : List Chunk} (h : Own w L) (hw : Upd w w' [] H) : Own w' L := by
  refine ⟨fun c hc => c.stable (fun i hi => ?_) (h.ok c hc), h.sep⟩
  exact hw.keep i (c.live (h.ok c hc) hi) (by simp)
def findT : Tr → Int → Tr
  | .nil, _ => .nil
  | .node a k v l r, key => if k = key then .node a k v l r else if k < key then findT r key else findT l key
def endT (s : Bool) : Tr → Int
  | .nil => 0
  | .node _ k _ l r => if s then (if r.adr.isNone then k else endT s r) else (if l.adr.isNone then k else endT s l)
set_option maxHeartbeats 1000000 in
set_option maxRecDepth 100000 in
theorem avlLen {w : World} {tb k : Nat} {t : Tr} (hk : Cell w [] ⟨tb, k, none⟩ (.pointer t.adr)) (hO : Own w [treeC nodeT t]) :
    Spec Go.Proofs.Try.prog 66 #[.pointer (some ⟨tb, k, none⟩)] w [] (fun u _ => u = .int .i64 (t.size : Int)) := by
  refine Spec.enter (fn := Go.Proofs.Try.f66) (n := 8) [.pointer (some ⟨tb, k, none⟩)] Go.Proofs.Try.func66 (by kernel_rfl) rfl Go.Proofs.Try.ntmps66 Go.Proofs.Try.results66 rfl (Own.nil _) ?_
  refine JC.rs ?_
  refine Seq.p rfl Ev.assign ?_
  refine Seq.nil ?_
  refine JC.rs ?_
  refine Seq.p rfl Ev.move ?_
  refine Seq.p rfl Ev.nilP ?_
  refine Seq.p rfl (Ev.faB fd.avl_Tree_treebook_level_0 (bk := tb) (o := k)) ?_
  refine Seq.p rfl (Ev.ldS (v := t.ptr) sc.p_avl_node_treebook_level (Cells.cell hk)) ?_
  refine Seq.callP rfl (fun w' hw => avlSize (t := t) (ownUp hO hw)) ?_
  refine Seq.p rfl Ev.assign ?_
  refine Seq.nil ?_
  refine JC.ret ?_
  show retQ _ _ _ _ _ _ _ _
  refine ret1 (hp := Part.nil _) (hpost := ?_)
  rfl
set_option maxHeartbeats 1000000 in
set_option maxRecDepth 100000 in
theorem avlHeight {w : World} {tb k : Nat} {t : Tr} (hk : Cell w [] ⟨tb, k, none⟩ (.pointer t.adr)) (hO : Own w [treeC nodeT t]) :
    Spec Go.Proofs.Try.prog 67 #[.pointer (some ⟨tb, k, none⟩)] w [] (fun u _ => u = .int .i64 (t.high : Int)) := by
  refine Spec.enter (fn := Go.Proofs.Try.f67) (n := 8) [.pointer (some ⟨tb, k, none⟩)] Go.Proofs.Try.func67 (by kernel_rfl) rfl Go.Proofs.Try.ntmps67 Go.Proofs.Try.results67 rfl (Own.nil _) ?_
  refine JC.rs ?_
  refine Seq.p rfl Ev.assign ?_
  refine Seq.nil ?_
  refine JC.rs ?_
  refine Seq.p rfl Ev.move ?_
  refine Seq.p rfl Ev.nilP ?_
  refine Seq.p rfl (Ev.faB fd.avl_Tree_treebook_level_0 (bk := tb) (o := k)) ?_
  refine Seq.p rfl (Ev.ldS (v := t.ptr) sc.p_avl_node_treebook_level (Cells.cell hk)) ?_
  refine Seq.callP rfl (fun w' hw => avlHigh (t := t) (ownUp hO hw)) ?_
  refine Seq.p rfl Ev.assign ?_
  refine Seq.nil ?_
  refine JC.ret ?_
  show retQ _ _ _ _ _ _ _ _
  refine ret1 (hp := Part.nil _) (hpost := ?_)
  rfl
end Go.Rx
/- The tree of the levels: a key taken out. -/
namespace Go.Rx
open Go Go.RowKit
set_option linter.unusedVariables false
set_option linter.unusedSimpArgs false
def DropPost (tb k : Nat) (TB : TypeId) (cs : List Value) (t : Tr) (fs : List Fr) (l r : Tr) (v : Value) (u : Value) (H' : List Chunk) : Prop :=
  ∃ R : Tr, u = .tuple #[v, .bool true] ∧ H' = [.box tb TB (cs.set k R.ptr), treeC nodeT R] ∧ R.ins = preF fs ++ (l.ins ++ r.ins) ++ postF fs ∧ (t.ok → R.ok)
end Go.Rx
/- The book over trees: the orders at a price, as they hang together. -/
namespace Go.Rx
open Go Go.RowKit
set_option linter.unusedVariables false
set_option linter.unusedSimpArgs false
structure OrdA where
  a : Nat
  r : Rst
deriving Inhabited
def OrdA.adr (o : OrdA) : Option Addr := some ⟨o.a, 0, none⟩
abbrev ordT : TypeId := 102
abbrev levT : TypeId := 104
abbrev ordC (lv : Option Addr) (o : OrdA) (p n : Option Addr) : Chunk := .box o.a ordT [.int .u64 (o.r.id : Int), .int .u32 (o.r.member : Int), .int .i64 o.r.type, .int .i64 o.r.price, .int .u64 (o.r.vis : Int), .int .u64 (o.r.hid : Int), .int .u64 (o.r.peak : Int), .pointer p, .pointer n, .pointer lv]
def headA : List OrdA → Option Addr → Option Addr
  | [], nx => nx
  | o :: _, _ => o.adr
def lastA : Option Addr → List OrdA → Option Addr
  | p, [] => p
  | _, o :: os => lastA o.adr os
def chainC (lv : Option Addr) : Option Addr → List OrdA → Option Addr → Chunk
  | _, [], _ => .pk []
  | p, o :: os, nx => .pk [ordC lv o p (headA os nx), chainC lv o.adr os nx]
theorem headA_append : ∀ (xs ys : List OrdA) (nx : Option Addr), headA (xs ++ ys) nx = headA xs (headA ys nx)
  | [], _, _ => rfl
  | _ :: _, _, _ => rfl
section
variable {w0 w : World} {Cs : List Chunk} {lv : Option Addr}
theorem Upd.chain_split : ∀ {xs ys : List OrdA} {p nx : Option Addr} {G : List Chunk}, Upd w0 w Cs (chainC lv p (xs ++ ys) nx :: G) → Upd w0 w Cs (chainC lv p xs (headA ys nx) :: chainC lv (lastA p xs) ys nx :: G)
  | [], ys, p, nx, G, h => Upd.pk0 (L := []) h
  | o :: xs, ys, p, nx, G, h => by
    have h1 : Upd w0 w Cs ([ordC lv o p (headA (xs ++ ys) nx), chainC lv o.adr (xs ++ ys) nx] ++ G) := h.unpk0
    rw [headA_append] at h1
    have h2 : Upd w0 w Cs (chainC lv o.adr (xs ++ ys) nx :: ordC lv o p (headA xs (headA ys nx)) :: G) := h1.perm (List.Perm.swap _ _ _)
    have h3 := Upd.chain_split h2
    refine Upd.pk (L := [ordC lv o p (headA xs (headA ys nx)), chainC lv o.adr xs (headA ys nx)]) h3 ?_
    show (ordC lv o p _ :: chainC lv o.adr xs _ :: chainC lv _ ys nx :: G).Perm (chainC lv o.adr xs _ :: chainC lv _ ys nx :: ordC lv o p _ :: G)
    exact (List.Perm.swap _ _ _).trans ((List.Perm.swap _ _ _).cons _)
end
abbrev levC (b : Nat) (side : Int) (f l : Option Addr) (shown count : Nat) : Chunk := .box b levT [.int .i64 side, .pointer f, .pointer l, .int .u64 (shown : Int), .int .i64 (count : Int)]
def shownF (os : List OrdA) : Nat := (os.map fun o => o.r.vis).sum
def levelC (b : Nat) (side : Int) (os : List OrdA) : Chunk := .pk [levC b side (headA os none) (lastA none os) (shownF os) os.length, chainC (some ⟨b, 0, none⟩) none os none]
theorem shown_cons (o : OrdA) (xs : List OrdA) : shownF (o :: xs) = o.r.vis + shownF xs := by simp [shownF]
end Go.Rx
/- The book over trees: an order behind all others at its price; an order taken out. (printed by gen_ou.py) -/
namespace Go.Rx
open Go Go.RowKit
set_option linter.unusedVariables false
set_option linter.unusedSimpArgs false
end Go.Rx
/- The book over trees: an order taken out of its level. (printed by gen_ou.py) -/
namespace Go.Rx
open Go Go.RowKit
set_option linter.unusedVariables false
set_option linter.unusedSimpArgs false
end Go.Rx
/- The book over trees: a side's levels, and the tree of them (plain). -/
namespace Go.Rx
open Go Go.RowKit
set_option linter.unusedVariables false
set_option linter.unusedSimpArgs false
structure LevA where
  a : Nat
  price : Int
  os : List OrdA
deriving Inhabited
def LevA.ent (l : LevA) : Int × Value := (l.price, .pointer (some ⟨l.a, 0, none⟩))
def tieL (t : Tr) (L : List LevA) : Prop := t.ins = L.map LevA.ent
def sortL (L : List LevA) : Prop := L.Pairwise fun x y => x.price < y.price
theorem tie_vals {t : Tr} {L : List LevA} (h : tieL t L) : ∀ p ∈ t.ins, ∃ q, p.2 = .pointer q := by
  intro p hp
  rw [show t.ins = L.map LevA.ent from h] at hp
  obtain ⟨l, _, rfl⟩ := List.mem_map.1 hp
  exact ⟨_, rfl⟩
theorem tie_size {t : Tr} {L : List LevA} (h : tieL t L) : t.size = L.length := by
  rw [← Tr.size_ins, show t.ins = L.map LevA.ent from h, List.length_map]
theorem sort_mid {L1 L2 : List LevA} {l : LevA} (h : sortL (L1 ++ L2)) (h1 : ∀ x ∈ L1, x.price < l.price) (h2 : ∀ x ∈ L2, l.price < x.price) : sortL (L1 ++ l :: L2) := by
  obtain ⟨a, b, c⟩ := List.pairwise_append.1 h
  refine List.pairwise_append.2 ⟨a, List.pairwise_cons.2 ⟨fun x hx => h2 x hx, b⟩, fun x hx y hy => ?_⟩
  rcases List.mem_cons.1 hy with rfl | hy
  · exact h1 x hx
  · exact c x hx y hy
theorem sort_drop {L1 L2 : List LevA} {l : LevA} (h : sortL (L1 ++ l :: L2)) : sortL (L1 ++ L2) :=
  List.Pairwise.sublist ((List.sublist_cons_self l L2).append_left L1) h
theorem sort_swap {L1 L2 : List LevA} {l l' : LevA} (h : sortL (L1 ++ l :: L2)) (hp : l'.price = l.price) : sortL (L1 ++ l' :: L2) := by
  obtain ⟨a, b, c⟩ := List.pairwise_append.1 h
  obtain ⟨d, e⟩ := List.pairwise_cons.1 b
  refine List.pairwise_append.2 ⟨a, List.pairwise_cons.2 ⟨fun x hx => by rw [hp]; exact d x hx, e⟩, fun x hx y hy => ?_⟩
  rcases List.mem_cons.1 hy with rfl | hy
  · rw [hp]; exact c x hx l List.mem_cons_self
  · exact c x hx y (List.mem_cons_of_mem _ hy)
def levsC (side : Int) : List LevA → Chunk
  | [] => .pk []
  | l :: L => .pk [levelC l.a side l.os, levsC side L]
section
variable {w0 w : World} {Cs : List Chunk} {side : Int}
theorem Upd.levs_split : ∀ {L1 L2 : List LevA} {G : List Chunk}, Upd w0 w Cs (levsC side (L1 ++ L2) :: G) → Upd w0 w Cs (levsC side L1 :: levsC side L2 :: G)
  | [], L2, G, h => Upd.pk0 (L := []) h
  | l :: L1, L2, G, h => by
    have h1 : Upd w0 w Cs ([levelC l.a side l.os, levsC side (L1 ++ L2)] ++ G) := h.unpk0
    have h2 := Upd.levs_split (h1.perm (List.Perm.swap _ _ _) : Upd w0 w Cs (levsC side (L1 ++ L2) :: levelC l.a side l.os :: G))
    refine Upd.pk (L := [levelC l.a side l.os, levsC side L1]) h2 ?_
    show (levelC l.a side l.os :: levsC side L1 :: levsC side L2 :: G).Perm (levsC side L1 :: levsC side L2 :: levelC l.a side l.os :: G)
    exact (List.Perm.swap _ _ _).trans ((List.Perm.swap _ _ _).cons _)
theorem Upd.lev_out {L1 L2 : List LevA} {l : LevA} {G : List Chunk} (h : Upd w0 w Cs (levsC side (L1 ++ l :: L2) :: G)) : Upd w0 w Cs (levelC l.a side l.os :: levsC side L1 :: levsC side L2 :: G) := by
  have h1 := Upd.levs_split h
  have h2 : Upd w0 w Cs ([levelC l.a side l.os, levsC side L2] ++ (levsC side L1 :: G)) := Upd.unpk0 (L := [levelC l.a side l.os, levsC side L2]) (h1.perm (List.Perm.swap _ _ _))
  exact h2.perm ((List.Perm.swap _ _ _).cons _)
end
end Go.Rx
/- The book over trees: an order put to rest. -/
namespace Go.Rx
open Go Go.RowKit
set_option linter.unusedVariables false
set_option linter.unusedSimpArgs false
abbrev bookT : TypeId := 92
abbrev bkL (cap meet : Int) (p1 p2 : Option Addr) (mb high seq : Nat) : List Value := [.int .i64 cap, .int .i64 meet, .pointer p1, .pointer p2, .map (some mb), .int .u64 (high : Int), .int .u64 (seq : Int)]
abbrev bookC (bk : Nat) (cap meet : Int) (p1 p2 : Option Addr) (mb high seq : Nat) : Chunk := .box bk bookT (bkL cap meet p1 p2 mb high seq)
set_option maxHeartbeats 1000000 in
set_option maxRecDepth 100000 in
theorem tbTree1 {w : World} {bk : Nat} : Spec Go.Proofs.Try.prog 73 #[.pointer (some ⟨bk, 0, none⟩), .int .i64 1] w [] (fun u _ => u = .pointer (some ⟨bk, 2, none⟩)) := by
  refine Spec.enter (fn := Go.Proofs.Try.f73) (n := 11) [.pointer (some ⟨bk, 0, none⟩), .int .i64 1] Go.Proofs.Try.func73 (by kernel_rfl) rfl Go.Proofs.Try.ntmps73 Go.Proofs.Try.results73 rfl (Own.nil _) ?_
  refine JC.rs ?_
  refine Seq.p rfl Ev.assign ?_
  refine Seq.nil ?_
  refine JC.rs ?_
  refine Seq.p rfl Ev.move ?_
  refine Seq.p rfl Ev.move ?_
  refine Seq.p rfl Ev.sub ?_
  refine Seq.p rfl Ev.nilP ?_
  refine Seq.p rfl (Ev.faB fd.treebook_Book_1 (bk := bk) (o := 0)) ?_
  refine Seq.p rfl (Ev.iaArr ar.a2_avl_Tree_treebook_level) ?_
  refine Seq.p rfl Ev.assign ?_
  refine Seq.nil ?_
  refine JC.ret ?_
  show retQ _ _ _ _ _ _ _ _
  refine ret1 (hp := Part.nil _) (hpost := ?_)
  rfl
set_option maxHeartbeats 1000000 in
set_option maxRecDepth 100000 in
theorem tbTree2 {w : World} {bk : Nat} : Spec Go.Proofs.Try.prog 73 #[.pointer (some ⟨bk, 0, none⟩), .int .i64 2] w [] (fun u _ => u = .pointer (some ⟨bk, 3, none⟩)) := by
  refine Spec.enter (fn := Go.Proofs.Try.f73) (n := 11) [.pointer (some ⟨bk, 0, none⟩), .int .i64 2] Go.Proofs.Try.func73 (by kernel_rfl) rfl Go.Proofs.Try.ntmps73 Go.Proofs.Try.results73 rfl (Own.nil _) ?_
  refine JC.rs ?_
  refine Seq.p rfl Ev.assign ?_
  refine Seq.nil ?_
  refine JC.rs ?_
  refine Seq.p rfl Ev.move ?_
  refine Seq.p rfl Ev.move ?_
  refine Seq.p rfl Ev.sub ?_
  refine Seq.p rfl Ev.nilP ?_
  refine Seq.p rfl (Ev.faB fd.treebook_Book_1 (bk := bk) (o := 0)) ?_
  refine Seq.p rfl (Ev.iaArr ar.a2_avl_Tree_treebook_level) ?_
  refine Seq.p rfl Ev.assign ?_
  refine Seq.nil ?_
  refine JC.ret ?_
  show retQ _ _ _ _ _ _ _ _
  refine ret1 (hp := Part.nil _) (hpost := ?_)
  rfl
end Go.Rx
/- The book over trees: an order put to rest. (printed by gen_ou6.py) -/
namespace Go.Rx
open Go Go.RowKit
set_option linter.unusedVariables false
set_option linter.unusedSimpArgs false
def OrdA.ent (o : OrdA) : Int × Value := ((o.r.id : Int), .pointer o.adr)
def RestL (L L' : List LevA) (o : OrdA) : Prop :=
  (∃ L1 l L2, L = L1 ++ l :: L2 ∧ l.price = o.r.price ∧ L' = L1 ++ ⟨l.a, l.price, l.os ++ [o]⟩ :: L2) ∨
  (∃ L1 L2 b, L = L1 ++ L2 ∧ (∀ x ∈ L1, x.price < o.r.price) ∧ (∀ x ∈ L2, o.r.price < x.price) ∧ L' = L1 ++ ⟨b, o.r.price, [o]⟩ :: L2)
theorem restL_sort {L L' : List LevA} {o : OrdA} (h : RestL L L' o) (hs : sortL L) : sortL L' := by
  rcases h with ⟨L1, l, L2, rfl, _, rfl⟩ | ⟨L1, L2, b, rfl, h1, h2, rfl⟩
  · exact sort_swap hs rfl
  · exact sort_mid hs h1 h2
end Go.Rx
/- The book over trees: an order gone. (printed by gen_ou7.py) -/
namespace Go.Rx
open Go Go.RowKit
set_option linter.unusedVariables false
set_option linter.unusedSimpArgs false
section
variable {κ : Type} [DecidableEq κ] {P : Program} {n : Nat} {ops : Array Oper} {w0 : World} {Cs H : List Chunk} {e : Env} {K : Env → List Chunk → Prop} {rest : List Oper}
  {ty : TypeId} {pos : String} {af : Array Edge} {x y u : Operand} {d : TypeDesc} {ke : κ → Value}
end
theorem level_cell {w : World} {b off : Nat} {side : Int} {os : List OrdA} {u : Value} (h : Own w [levelC b side os]) (hv : ([.int .i64 side, .pointer (headA os none), .pointer (lastA none os), .int .u64 (shownF os : Int), .int .i64 (os.length : Int)] : List Value)[off]? = some u) : Cell w [] ⟨b, off, none⟩ u := by
  have h2 : Own w ([levC b side (headA os none) (lastA none os) (shownF os) os.length, chainC (some ⟨b, 0, none⟩) none os none] ++ []) := Own.unpk h
  exact h2.cellOf List.mem_cons_self hv
def OrdA.cells (o : OrdA) (lv p n : Option Addr) : List Value := [.int .u64 (o.r.id : Int), .int .u32 (o.r.member : Int), .int .i64 o.r.type, .int .i64 o.r.price, .int .u64 (o.r.vis : Int), .int .u64 (o.r.hid : Int), .int .u64 (o.r.peak : Int), .pointer p, .pointer n, .pointer lv]
theorem chain_cell {w : World} {lv p nx : Option Addr} {xs ys : List OrdA} {o : OrdA} {off : Nat} {u : Value} (h : Own w [chainC lv p (xs ++ o :: ys) nx]) (hv : (o.cells lv (lastA p xs) (headA ys nx))[off]? = some u) : Cell w [] ⟨o.a, off, none⟩ u := by
  have h1 := Upd.chain_split (xs := xs) (ys := o :: ys) (Upd.refl h)
  have h2 := Upd.unpk (L := [ordC lv o (lastA p xs) (headA ys nx), chainC lv o.adr ys nx]) h1 (At.s At.z)
  exact h2.own.cellOf List.mem_cons_self hv
theorem order_cell {w : World} {b off : Nat} {side : Int} {xs ys : List OrdA} {o : OrdA} {u : Value} (h : Own w [levelC b side (xs ++ o :: ys)]) (hv : (o.cells (some ⟨b, 0, none⟩) (lastA none xs) (headA ys none))[off]? = some u) : Cell w [] ⟨o.a, off, none⟩ u := by
  have h2 : Own w ([levC b side (headA (xs ++ o :: ys) none) (lastA none (xs ++ o :: ys)) (shownF (xs ++ o :: ys)) (xs ++ o :: ys).length, chainC (some ⟨b, 0, none⟩) none (xs ++ o :: ys) none] ++ []) := Own.unpk h
  exact chain_cell (h2.sub ((List.Sublist.refl _).cons _)) hv
theorem levs_level {w : World} {side : Int} {L1 L2 : List LevA} {l : LevA} (h : Own w [levsC side (L1 ++ l :: L2)]) : Own w [levelC l.a side l.os] :=
  (Upd.lev_out (Upd.refl h)).own.sub ((List.nil_sublist _).cons_cons _)
def GoneL (L' L1 : List LevA) (l : LevA) (L2 : List LevA) (os : List OrdA) : Prop := (os = [] ∧ L' = L1 ++ L2) ∨ (os ≠ [] ∧ L' = L1 ++ ⟨l.a, l.price, os⟩ :: L2)
end Go.Rx
/- The document's book: an order enqueued; what comes; what is told; levels. -/
namespace Go.Rx
open Go Go.RowKit
set_option linter.unusedVariables false
set_option linter.unusedSimpArgs false
def enqF (s : Int) (l : List Rst) (o : Rst) : List Rst := (l.takeWhile fun r => !betterF s o.price r.price) ++ o :: (l.dropWhile fun r => !betterF s o.price r.price)
def enqS (s : Int) (o : Rst) : List Rst → List Rst × Bool
  | [] => ([], false)
  | r :: l => if betterF s o.price r.price = true then (o :: r :: l, true) else (r :: (enqS s o l).1, (enqS s o l).2)
end Go.Rx
/- The document's book: what comes and whether it meets; what is told. -/
namespace Go.Rx
open Go Go.RowKit
set_option linter.unusedVariables false
set_option linter.unusedSimpArgs false
section
variable {P : Program} {w0 : World} {Cs H : List Chunk} {e : Env} {ty tx ty' : TypeId} {x y : Operand} {a b : Nat} {op : Op}
theorem Ev.asR {v v' : Value} (hr : Ev P w0 Cs H e op ty v) (h : v = v') : Ev P w0 Cs H e op ty v' := h ▸ hr
end
structure Com where
  id : Nat
  left : Nat
  peak : Nat
  member : Nat
  side : Int
  kind : Int
  price : Int
deriving DecidableEq, Inhabited
def Com.enc (o : Com) : List Value := [.int .u64 (o.id : Int), .int .u64 (o.left : Int), .int .u64 (o.peak : Int), .int .u32 (o.member : Int), .int .i64 o.side, .int .i64 o.kind, .int .i64 o.price]
def meetsF (b : Bk) (o : Com) : Bool := decide (0 < (sideF b (3 - o.side)).length ∧ (o.kind = 2 ∨ (sideF b (3 - o.side))[0]!.price = o.price ∨ o.side = 1 ∧ (sideF b (3 - o.side))[0]!.price < o.price ∨ o.side ≠ 1 ∧ o.price < (sideF b (3 - o.side))[0]!.price))
abbrev evtL (v : Value) (l : List Evt) : Chunk := .own 38 13 v l.length (l.flatMap Evt.enc)
def tickF (n : Nat) : Nat := (n + 1) % 18446744073709551616
end Go.Rx
/- The document's book: one meeting of what comes with the first of the other side. -/
namespace Go.Rx
open Go Go.RowKit
set_option linter.unusedVariables false
set_option linter.unusedSimpArgs false
structure Tld where
  b : Bk
  l : List Evt
def Tld.tell (t : Tld) (e : Evt) : Tld := ⟨{ t.b with seq := tickF t.b.seq }, t.l ++ [{ e with seq := tickF t.b.seq }]⟩
def Tld.cells (t : Tld) (vb vs vl : Value) : List Value := t.b.cells vb vs ++ [vl]
def cancelE (id qty : Nat) (reason : Int) : Evt := { (default : Evt) with kind := 4, id := id, qty := qty, reason := reason }
def tradeE (id other : Nat) (side price : Int) (qty : Nat) : Evt := { (default : Evt) with kind := 3, id := id, other := other, side := side, price := price, qty := qty }
def freshE (id : Nat) (price : Int) (qty : Nat) : Evt := { (default : Evt) with kind := 5, id := id, price := price, qty := qty }
def Tld.put (t : Tld) (s : Int) (l : List Rst) : Tld := ⟨withF t.b s l, t.l⟩
def ownP (t : Tld) (o : Com) (m : Rst) : Prop := m.member ≠ 0 ∧ m.member = o.member ∧ t.b.meet ≠ 0
instance (t : Tld) (o : Com) (m : Rst) : Decidable (ownP t o m) := inferInstanceAs (Decidable (_ ∧ _ ∧ _))
def meetF (t : Tld) (o : Com) (s : Int) (L : List Rst) (m : Rst) : Tld × Com :=
  let t1 := if t.b.meet = 2 ∨ t.b.meet = 3 then (t.tell (cancelE m.id (m.vis + m.hid) 5)).put s (withoutF L m.id) else t
  if t.b.meet = 1 ∨ t.b.meet = 3 then (t1.tell (cancelE o.id o.left 5), { o with left := 0 }) else (t1, o)
def tradeF (t : Tld) (o : Com) (s : Int) (L : List Rst) (m : Rst) : Tld × Com :=
  let q := if m.vis < o.left then m.vis else o.left
  let t1 := t.tell (tradeE o.id m.id o.side m.price q)
  let o1 := { o with left := o.left - q }
  if 0 < m.vis - q then (t1.put s ({ m with vis := m.vis - q } :: withoutF L m.id), o1)
  else if 0 < m.hid then
    let v := if m.hid < m.peak then m.hid else m.peak
    ((t1.tell (freshE m.id m.price v)).put s (enqF s (withoutF L m.id) { m with vis := v, hid := m.hid - v }), o1)
  else (t1.put s (withoutF L m.id), o1)
def stepF (t : Tld) (o : Com) : Tld × Com :=
  let L := sideF t.b (3 - o.side)
  if ownP t o L[0]! then meetF t o (3 - o.side) L L[0]! else tradeF t o (3 - o.side) L L[0]!
def twoL (s : Int) (old new : Chunk) : List Chunk := if s = 1 then [new, old] else [old, new]
def TldPost (x : Tld × Com) (u : Value) (H' : List Chunk) : Prop := ∃ A1 c1 A2 c2 A3 c3, u = .tuple #[.agg (x.1.cells (.slice A1 x.1.b.buys.length c1) (.slice A2 x.1.b.sells.length c2) (.slice A3 x.1.l.length c3)).toArray, .agg x.2.enc.toArray] ∧
  H' = [rstL (.slice A1 x.1.b.buys.length c1) x.1.b.buys, rstL (.slice A2 x.1.b.sells.length c2) x.1.b.sells, evtL (.slice A3 x.1.l.length c3) x.1.l]
end Go.Rx
/- The book over trees: the best order of a side; what is told; whether what comes meets. -/
namespace Go.Rx
open Go Go.RowKit
set_option linter.unusedVariables false
set_option linter.unusedSimpArgs false
def bestL (side : Int) (L : List LevA) : List OrdA := match (if side = 1 then L.reverse else L) with
  | [] => []
  | l :: _ => l.os
end Go.Rx
/- The book over trees: what is told; whether what comes meets a price. -/
namespace Go.Rx
open Go Go.RowKit
set_option linter.unusedVariables false
set_option linter.unusedSimpArgs false
abbrev comeC (b : Nat) (c : Cmd) (left : Nat) (v : Value) : Chunk := .box b 96 [.int .i64 c.kind, .int .u64 (c.id : Int), .int .u64 (c.target : Int), .int .u32 (c.member : Int), .int .i64 c.side, .int .i64 c.type, .int .i64 c.price, .int .u64 (c.qty : Int), .int .u64 (c.peak : Int), .int .u64 (left : Int), v]
def TbTold (bk : Nat) (cap meet : Int) (p1 p2 : Option Addr) (mb high seq : Nat) (b : Nat) (c : Cmd) (left : Nat) (l : List Evt) (e : Evt) (H' : List Chunk) : Prop :=
  ∃ A ca, H' = [bookC bk cap meet p1 p2 mb high (tickF seq), comeC b c left (.slice A (l ++ [{ e with seq := tickF seq }]).length ca), evtL (.slice A (l ++ [{ e with seq := tickF seq }]).length ca) (l ++ [{ e with seq := tickF seq }])]
def meetsC (c : Cmd) (p : Int) : Bool := decide (c.type = 2 ∨ c.side = 1 ∧ p ≤ c.price ∨ c.side ≠ 1 ∧ c.price ≤ p)
end Go.Rx
/- The book over trees: what comes trades with the first order of a side. (printed by gen_ou10.py) -/
namespace Go.Rx
open Go Go.RowKit
set_option linter.unusedVariables false
set_option linter.unusedSimpArgs false
def told (l : List Evt) (n : Nat) (e : Evt) : List Evt := l ++ [{ e with seq := tickF n }]
def TradeL (L' L1 : List LevA) (l : LevA) (L2 : List LevA) (o : OrdA) (ys : List OrdA) (c : Cmd) (left q : Nat) (ids ids' : List (Int × Value)) (evs evs' : List Evt) (seq seq' : Nat) : Prop :=
  (0 < o.r.vis - q ∧ L' = L1 ++ ⟨l.a, l.price, ⟨o.a, { o.r with vis := o.r.vis - q }⟩ :: ys⟩ :: L2 ∧ ids' = ids ∧ evs' = told evs seq (tradeE c.id o.r.id c.side o.r.price q) ∧ seq' = tickF seq) ∨
  (o.r.vis - q = 0 ∧ o.r.hid = 0 ∧ GoneL L' L1 l L2 ys ∧ ids' = adel ids (o.r.id : Int) ∧ evs' = told evs seq (tradeE c.id o.r.id c.side o.r.price q) ∧ seq' = tickF seq) ∨
  (o.r.vis - q = 0 ∧ 0 < o.r.hid ∧ (∃ v2, v2 = (if o.r.hid < o.r.peak then o.r.hid else o.r.peak) ∧ L' = L1 ++ ⟨l.a, l.price, ys ++ [⟨o.a, { o.r with vis := v2, hid := o.r.hid - v2 }⟩]⟩ :: L2 ∧ evs' = told (told evs seq (tradeE c.id o.r.id c.side o.r.price q)) (tickF seq) (freshE o.r.id o.r.price v2)) ∧ ids' = ids ∧ seq' = tickF (tickF seq))
end Go.Rx
/- The book over trees: what comes meets an order of its own member. (printed by gen_ov2.py) -/
namespace Go.Rx
open Go Go.RowKit
set_option linter.unusedVariables false
set_option linter.unusedSimpArgs false
def MeetL (meet : Int) (L' L1 : List LevA) (l : LevA) (L2 : List LevA) (o : OrdA) (ys : List OrdA) (c : Cmd) (left left' : Nat) (ids ids' : List (Int × Value)) (evs evs' : List Evt) (seq seq' : Nat) : Prop :=
  (meet = 1 ∧ L' = L1 ++ l :: L2 ∧ ids' = ids ∧ left' = 0 ∧ evs' = told evs seq (cancelE c.id left 5) ∧ seq' = tickF seq) ∨
  (meet = 2 ∧ GoneL L' L1 l L2 ys ∧ ids' = adel ids (o.r.id : Int) ∧ left' = left ∧ evs' = told evs seq (cancelE o.r.id (o.r.vis + o.r.hid) 5) ∧ seq' = tickF seq) ∨
  (meet = 3 ∧ GoneL L' L1 l L2 ys ∧ ids' = adel ids (o.r.id : Int) ∧ left' = 0 ∧ evs' = told (told evs seq (cancelE o.r.id (o.r.vis + o.r.hid) 5)) (tickF seq) (cancelE c.id left 5) ∧ seq' = tickF (tickF seq))
end Go.Rx
/- The document's book: how far what comes trades (plain). -/
namespace Go.Rx
open Go Go.RowKit
set_option linter.unusedVariables false
set_option linter.unusedSimpArgs false
def Rst.live (r : Rst) : Prop := 1 ≤ r.vis ∧ r.vis + r.hid ≤ 4294967295 ∧ r.peak ≤ 4294967295 ∧ (r.peak = 0 → r.hid = 0) ∧ (r.peak ≠ 0 → r.hid ≤ 256 * r.peak)
def Rst.rank (r : Rst) : Nat := if r.hid = 0 then 1 else 1 + (r.hid + r.peak - 1) / r.peak
def rankL (l : List Rst) : Nat := (l.map Rst.rank).sum
def leftN (t : Tld) (o : Com) : Nat := rankL (sideF t.b (3 - o.side)) + (if o.left = 0 then 0 else 1)
def tradesN : Nat → Tld → Com → Tld × Com
  | 0, t, o => (t, o)
  | n + 1, t, o => if 0 < o.left ∧ meetsF t.b o = true then tradesN n (stepF t o).1 (stepF t o).2 else (t, o)
def tradesF (t : Tld) (o : Com) : Tld × Com := tradesN (leftN t o) t o
def liveT (t : Tld) (o : Com) : Prop := (o.side = 1 ∨ o.side = 2) ∧ (0 ≤ t.b.meet ∧ t.b.meet ≤ 3) ∧ (∀ r ∈ sideF t.b (3 - o.side), r.live)
end Go.Rx
/- The document's book: what a command does (plain). -/
namespace Go.Rx
open Go Go.RowKit
set_option linter.unusedVariables false
set_option linter.unusedSimpArgs false
def sumTr : List Evt → Nat
  | [] => 0
  | e :: l => (if e.kind = 3 then e.qty else 0) + sumTr l
def wholeF (b : Bk) (o : Com) : Bool := decide (sumTr (tradesF ⟨b, []⟩ o).1.l % 18446744073709551616 = o.left)
def restF (o : Com) : Rst := if 0 < o.peak ∧ o.peak < o.left then ⟨o.id, o.member, o.kind, o.price, o.peak, o.left - o.peak, o.peak⟩ else ⟨o.id, o.member, o.kind, o.price, o.left, 0, o.peak⟩
def restsF (x : Tld × Com) : Tld :=
  if x.2.left = 0 then x.1
  else if x.2.kind = 1 ∨ x.2.kind = 5 then x.1.put x.2.side (enqF x.2.side (sideF x.1.b x.2.side) (restF x.2))
  else x.1.tell (cancelE x.2.id x.2.left 3)
def comesF (t : Tld) (o : Com) : Tld :=
  if o.kind = 4 ∧ wholeF t.b o = false then t.tell (cancelE o.id o.left 4) else restsF (tradesF t o)
def amountsF (c : Cmd) (kind : Int) : Int :=
  if (c.price < 0 ∨ 262144 ≤ c.price) ∨ kind = 2 ∧ c.price ≠ 0 then 94
  else if c.qty < 1 ∨ 4294967295 < c.qty then 95
  else if c.qty < c.peak ∨ c.peak ≠ 0 ∧ (kind ≠ 1 ∧ kind ≠ 5 ∨ 256 * c.peak < c.qty) then 96
  else if c.id = 0 then 97 else 0
def checkF (c : Cmd) : Int :=
  if c.kind = 2 then 0
  else if c.kind = 3 then amountsF c 1
  else if c.kind = 1 then
    if c.side ≠ 1 ∧ c.side ≠ 2 then 92
    else if c.type < 1 ∨ 5 < c.type then 93
    else amountsF c c.type
  else 90
def askC (b : Bk) (c : Cmd) : Com := if c.kind = 3 then ⟨0, 0, 0, 0, (findF b c.target).2.1, (findF b c.target).1.type, c.price⟩ else ⟨0, 0, 0, 0, c.side, c.type, c.price⟩
def refusedF (b : Bk) (c : Cmd) : Int :=
  if c.kind < 1 ∨ 3 < c.kind then 90
  else if c.kind ≠ 1 ∧ (findF b c.target).2.2 = false then 91
  else if checkF c ≠ 0 ∨ c.kind = 2 then checkF c
  else if c.id ≤ b.high then 97
  else if c.kind ≠ 3 ∧ (c.type = 1 ∨ c.type = 5) ∧ b.cap ≤ ((b.buys.length + b.sells.length : Nat) : Int) then 98
  else if (askC b c).kind = 5 ∧ meetsF b (askC b c) = true then 99 else 0
def rejectE (c : Cmd) (e : Int) : Evt := { (default : Evt) with kind := 2, id := if c.kind = 2 then 0 else c.id, target := if c.kind = 1 then 0 else c.target, code := e }
def ackE (o : Com) : Evt := { (default : Evt) with kind := 1, id := o.id, member := o.member, side := o.side, type := o.kind, price := o.price, qty := o.left, peak := o.peak }
def comC (c : Cmd) : Com := ⟨c.id, c.qty, c.peak, c.member, c.side, c.type, c.price⟩
def outF (b : Bk) (c : Cmd) : Tld := ((Tld.mk b []).tell (cancelE (findF b c.target).1.id ((findF b c.target).1.vis + (findF b c.target).1.hid) (if c.kind = 3 then 2 else 1))).put (findF b c.target).2.1 (withoutF (sideF b (findF b c.target).2.1) (findF b c.target).1.id)
def outC (b : Bk) (c : Cmd) : Com := { comC c with member := (findF b c.target).1.member, side := (findF b c.target).2.1, kind := (findF b c.target).1.type }
def ackF (t : Tld) (o : Com) : Tld := ⟨{ (t.tell (ackE o)).b with high := o.id }, (t.tell (ackE o)).l⟩
def doT (b : Bk) (c : Cmd) : Tld :=
  if refusedF b c ≠ 0 then (Tld.mk b []).tell (rejectE c (refusedF b c))
  else if c.kind = 1 then comesF (ackF ⟨b, []⟩ (comC c)) (comC c)
  else if c.kind = 2 then outF b c
  else comesF (ackF (outF b c) (outC b c)) (outC b c)
def Bk.live (b : Bk) : Prop := (0 ≤ b.meet ∧ b.meet ≤ 3) ∧ (b.buys.length ≤ 4096 ∧ b.sells.length ≤ 4096) ∧ (∀ r ∈ b.buys ++ b.sells, r.live ∧ r.fits)
end Go.Rx
/- The book over trees: what its levels are as a list of orders (plain). -/
namespace Go.Rx
open Go Go.RowKit
set_option linter.unusedVariables false
set_option linter.unusedSimpArgs false
def LevA.rs (l : LevA) : List Rst := l.os.map fun o => o.r
def absS (s : Int) (L : List LevA) : List Rst := (if s = 1 then L.reverse else L).flatMap LevA.rs
def wfL (L : List LevA) : Prop := ∀ l ∈ L, l.os ≠ [] ∧ ∀ o ∈ l.os, o.r.price = l.price
def betL (s : Int) (L1 L2 : List LevA) : List LevA := if s = 1 then L2 else L1
def worL (s : Int) (L1 L2 : List LevA) : List LevA := if s = 1 then L1 else L2
theorem abs_mid (s : Int) (L1 L2 : List LevA) (l : LevA) : absS s (L1 ++ l :: L2) = absS s (betL s L1 L2) ++ (l.rs ++ absS s (worL s L1 L2)) := by
  unfold absS betL worL
  by_cases h : s = 1
  · simp [h]
  · simp [h]
theorem abs_two (s : Int) (L1 L2 : List LevA) : absS s (L1 ++ L2) = absS s (betL s L1 L2) ++ absS s (worL s L1 L2) := by
  unfold absS betL worL
  by_cases h : s = 1
  · simp [h]
  · simp [h]
theorem abs_mem {s : Int} {L : List LevA} {r : Rst} (h : r ∈ absS s L) : ∃ l ∈ L, ∃ o ∈ l.os, o.r = r := by
  unfold absS at h
  obtain ⟨l, hl, hr⟩ := List.mem_flatMap.1 h
  obtain ⟨o, ho, rfl⟩ := List.mem_map.1 hr
  refine ⟨l, ?_, o, ho, rfl⟩
  split at hl
  · exact List.mem_reverse.1 hl
  · exact hl
theorem enq_at {s : Int} {Z Y : List Rst} {r : Rst} (h1 : ∀ x ∈ Z, betterF s r.price x.price = false) (h2 : ∀ x ∈ Y, betterF s r.price x.price = true) : enqF s (Z ++ Y) r = Z ++ r :: Y := by
  have a1 : (Z ++ Y).takeWhile (fun x : Rst => !betterF s r.price x.price) = Z := by
    rw [List.takeWhile_append_of_pos (fun x hx => by simp [h1 x hx])]
    cases Y with
    | nil => simp
    | cons y Y => simp [h2 y List.mem_cons_self]
  have a2 : (Z ++ Y).dropWhile (fun x : Rst => !betterF s r.price x.price) = Y := by
    rw [List.dropWhile_append_of_pos (fun x hx => by simp [h1 x hx])]
    cases Y with
    | nil => simp
    | cons y Y => simp [h2 y List.mem_cons_self]
  unfold enqF
  rw [a1, a2]
theorem bet_price {s : Int} {L1 L2 : List LevA} {p : Int} (hw1 : wfL L1) (hw2 : wfL L2) (h1 : ∀ x ∈ L1, x.price < p) (h2 : ∀ x ∈ L2, p < x.price) : (∀ r ∈ absS s (betL s L1 L2), betterF s p r.price = false) ∧ (∀ r ∈ absS s (worL s L1 L2), betterF s p r.price = true) := by
  constructor
  · intro r hr
    obtain ⟨l, hl, o, ho, rfl⟩ := abs_mem hr
    unfold betL at hl
    unfold betterF
    split at hl
    · next hs =>
      have := h2 l hl
      have h3 := (hw2 l hl).2 o ho
      rw [if_pos hs, h3]
      simp; omega
    · next hs =>
      have := h1 l hl
      have h3 := (hw1 l hl).2 o ho
      rw [if_neg hs, h3]
      simp; omega
  · intro r hr
    obtain ⟨l, hl, o, ho, rfl⟩ := abs_mem hr
    unfold worL at hl
    unfold betterF
    split at hl
    · next hs =>
      have := h1 l hl
      have h3 := (hw1 l hl).2 o ho
      rw [if_pos hs, h3]
      simp; omega
    · next hs =>
      have := h2 l hl
      have h3 := (hw2 l hl).2 o ho
      rw [if_neg hs, h3]
      simp; omega
theorem better_self (s p : Int) : betterF s p p = false := by unfold betterF; split <;> simp
theorem sort_parts {L1 L2 : List LevA} {l : LevA} (h : sortL (L1 ++ l :: L2)) : (∀ x ∈ L1, x.price < l.price) ∧ (∀ x ∈ L2, l.price < x.price) := by
  obtain ⟨a, b, c⟩ := List.pairwise_append.1 h
  exact ⟨fun x hx => c x hx l List.mem_cons_self, (List.pairwise_cons.1 b).1⟩
theorem wf_parts {L1 L2 : List LevA} {l : LevA} (h : wfL (L1 ++ l :: L2)) : wfL L1 ∧ wfL L2 ∧ (l.os ≠ [] ∧ ∀ o ∈ l.os, o.r.price = l.price) :=
  ⟨fun x hx => h x (List.mem_append_left _ hx), fun x hx => h x (List.mem_append_right _ (List.mem_cons_of_mem _ hx)), h l (List.mem_append_right _ List.mem_cons_self)⟩
theorem wf_mid {L1 L2 : List LevA} {l : LevA} (h1 : wfL L1) (h2 : wfL L2) (h : l.os ≠ [] ∧ ∀ o ∈ l.os, o.r.price = l.price) : wfL (L1 ++ l :: L2) := by
  intro x hx
  rcases List.mem_append.1 hx with hx | hx
  · exact h1 x hx
  · rcases List.mem_cons.1 hx with rfl | hx
    · exact h
    · exact h2 x hx
theorem wf_two {L1 L2 : List LevA} (h1 : wfL L1) (h2 : wfL L2) : wfL (L1 ++ L2) := by
  intro x hx
  rcases List.mem_append.1 hx with hx | hx
  · exact h1 x hx
  · exact h2 x hx
theorem rest_abs {s : Int} {L L' : List LevA} {o : OrdA} (h : RestL L L' o) (hs : sortL L) (hw : wfL L) : absS s L' = enqF s (absS s L) o.r ∧ wfL L' := by
  rcases h with ⟨L1, l, L2, rfl, hp, rfl⟩ | ⟨L1, L2, b, rfl, h1, h2, rfl⟩
  · obtain ⟨w1, w2, wn, wp⟩ := wf_parts hw
    obtain ⟨s1, s2⟩ := sort_parts hs
    obtain ⟨q1, q2⟩ := bet_price (s := s) (p := o.r.price) w1 w2 (fun x hx => by rw [← hp]; exact s1 x hx) (fun x hx => by rw [← hp]; exact s2 x hx)
    constructor
    · rw [abs_mid, abs_mid, ← List.append_assoc (absS s (betL s L1 L2)) l.rs, enq_at _ q2]
      · simp [LevA.rs]
      · intro x hx
        rcases List.mem_append.1 hx with hx | hx
        · exact q1 x hx
        · obtain ⟨y, hy, rfl⟩ := List.mem_map.1 hx
          rw [wp y hy, ← hp]
          exact better_self _ _
    · refine wf_mid w1 w2 ⟨by simp, fun x hx => ?_⟩
      rcases List.mem_append.1 hx with hx | hx
      · exact wp x hx
      · rw [List.mem_singleton.1 hx]; exact hp.symm
  · have w1 : wfL L1 := fun x hx => hw x (List.mem_append_left _ hx)
    have w2 : wfL L2 := fun x hx => hw x (List.mem_append_right _ hx)
    obtain ⟨q1, q2⟩ := bet_price (s := s) (p := o.r.price) w1 w2 h1 h2
    constructor
    · rw [abs_mid, abs_two, enq_at q1 q2]
      simp [LevA.rs]
    · exact wf_mid w1 w2 ⟨by simp, fun x hx => by rw [List.mem_singleton.1 hx]⟩
theorem without_mid {X Y : List Rst} {r : Rst} (h : ∀ x ∈ X ++ Y, x.id ≠ r.id) : withoutF (X ++ r :: Y) r.id = X ++ Y := by
  unfold withoutF
  rw [List.filter_append, List.filter_cons, if_neg (by simp)]
  rw [List.filter_eq_self.2 (fun x hx => by simpa using h x (List.mem_append_left _ hx)), List.filter_eq_self.2 (fun x hx => by simpa using h x (List.mem_append_right _ hx))]
theorem gone_abs {s : Int} {L' L1 L2 : List LevA} {l : LevA} {xs ys : List OrdA} {o : OrdA} (h : GoneL L' L1 l L2 (xs ++ ys)) (hos : l.os = xs ++ o :: ys) (hw : wfL (L1 ++ l :: L2)) (hs : sortL (L1 ++ l :: L2)) :
    absS s (L1 ++ l :: L2) = absS s (betL s L1 L2) ++ xs.map (fun o => o.r) ++ o.r :: (ys.map (fun o => o.r) ++ absS s (worL s L1 L2)) ∧ absS s L' = absS s (betL s L1 L2) ++ xs.map (fun o => o.r) ++ (ys.map (fun o => o.r) ++ absS s (worL s L1 L2)) ∧ wfL L' ∧ sortL L' := by
  obtain ⟨w1, w2, wn, wp⟩ := wf_parts hw
  refine ⟨by rw [abs_mid]; simp [LevA.rs, hos], ?_⟩
  rcases h with ⟨h0, rfl⟩ | ⟨hn, rfl⟩
  · have hx : xs = [] := (List.append_eq_nil_iff.1 h0).1
    have hy : ys = [] := (List.append_eq_nil_iff.1 h0).2
    subst hx hy
    exact ⟨by rw [abs_two]; simp, wf_two w1 w2, sort_drop hs⟩
  · refine ⟨by rw [abs_mid]; simp [LevA.rs], wf_mid w1 w2 ⟨hn, fun x hx => wp x ?_⟩, sort_swap hs rfl⟩
    rw [hos]
    rcases List.mem_append.1 hx with hx | hx
    · exact List.mem_append_left _ hx
    · exact List.mem_append_right _ (List.mem_cons_of_mem _ hx)
end Go.Rx
/- The book over trees: a trade and a meeting are the document's (plain). -/
namespace Go.Rx
open Go Go.RowKit
set_option linter.unusedVariables false
set_option linter.unusedSimpArgs false
theorem with_side (b : Bk) (s : Int) (hs : s = 1 ∨ s = 2) : withF b s (sideF b s) = b := by
  rcases hs with rfl | rfl <;> rfl
theorem abs_nil (s : Int) : absS s [] = [] := by unfold absS; split <;> rfl
theorem abs_first {s : Int} {L1 L2 : List LevA} {l : LevA} {o : OrdA} {ys : List OrdA} (hbe : betL s L1 L2 = []) (hos : l.os = o :: ys) : absS s (L1 ++ l :: L2) = o.r :: (ys.map (fun o => o.r) ++ absS s (worL s L1 L2)) := by
  rw [abs_mid, hbe, abs_nil]
  simp [LevA.rs, hos]
theorem trade_abs {t : Tld} {com : Com} {s : Int} {L' L1 L2 : List LevA} {l : LevA} {o : OrdA} {ys : List OrdA} {c : Cmd} {q : Nat} {ids ids' : List (Int × Value)} {evs' : List Evt} {seq' : Nat}
    (hs : s = 1 ∨ s = 2) (hbe : betL s L1 L2 = []) (hos : l.os = o :: ys) (hw : wfL (L1 ++ l :: L2)) (hso : sortL (L1 ++ l :: L2)) (hu : ∀ x ∈ ys.map (fun o => o.r) ++ absS s (worL s L1 L2), x.id ≠ o.r.id)
    (hq : q = if o.r.vis < com.left then o.r.vis else com.left) (hci : c.id = com.id) (hcs : c.side = com.side) (h : TradeL L' L1 l L2 o ys c com.left q ids ids' t.l evs' t.b.seq seq') :
    tradeF t com s (absS s (L1 ++ l :: L2)) o.r = (⟨withF { t.b with seq := seq' } s (absS s L'), evs'⟩, { com with left := com.left - q }) ∧ wfL L' ∧ sortL L' := by
  obtain ⟨w1, w2, wn, wp⟩ := wf_parts hw
  obtain ⟨s1, s2⟩ := sort_parts hso
  have hfirst := abs_first hbe hos (s := s)
  have hwo : withoutF (absS s (L1 ++ l :: L2)) o.r.id = ys.map (fun o => o.r) ++ absS s (worL s L1 L2) := by
    rw [hfirst]
    exact without_mid (X := []) (by simpa using hu)
  have hop : o.r.price = l.price := wp o (by rw [hos]; exact List.mem_cons_self)
  have hyp : ∀ y ∈ ys, y.r.price = l.price := fun y hy => wp y (by rw [hos]; exact List.mem_cons_of_mem _ hy)
  unfold tradeF
  rw [← hq]
  dsimp only
  rw [hwo, ← hci, ← hcs]
  rcases h with ⟨h1, rfl, rfl, rfl, rfl⟩ | ⟨h1, h2, hg, rfl, rfl, rfl⟩ | ⟨h1, h2, ⟨v2, hv2, rfl, rfl⟩, rfl, rfl⟩
  · rw [if_pos h1]
    refine ⟨?_, wf_mid w1 w2 ⟨by simp, fun x hx => ?_⟩, sort_swap hso rfl⟩
    · rw [abs_first (l := ⟨l.a, l.price, ⟨o.a, { o.r with vis := o.r.vis - q }⟩ :: ys⟩) hbe rfl]
      rfl
    · rcases List.mem_cons.1 hx with rfl | hx
      · exact hop
      · exact hyp x hx
  · rw [if_neg (by omega), if_neg (by omega)]
    obtain ⟨_, g2, g3, g4⟩ := gone_abs (s := s) (xs := []) hg hos hw hso
    refine ⟨?_, g3, g4⟩
    rw [g2, hbe, abs_nil]
    rfl
  · rw [if_neg (by omega), if_pos h2, ← hv2]
    have hb := bet_price (s := s) (p := l.price) w1 w2 s1 s2
    have he : enqF s (ys.map (fun o => o.r) ++ absS s (worL s L1 L2)) { o.r with vis := v2, hid := o.r.hid - v2 } = ys.map (fun o => o.r) ++ { o.r with vis := v2, hid := o.r.hid - v2 } :: absS s (worL s L1 L2) := by
      refine enq_at (fun x hx => ?_) (fun x hx => ?_)
      · obtain ⟨y, hy, rfl⟩ := List.mem_map.1 hx
        show betterF s o.r.price y.r.price = false
        rw [hop, hyp y hy]
        exact better_self _ _
      · show betterF s o.r.price x.price = true
        rw [hop]
        exact hb.2 x hx
    rw [he]
    refine ⟨?_, wf_mid w1 w2 ⟨by simp, fun x hx => ?_⟩, sort_swap hso rfl⟩
    · rw [abs_mid, hbe, abs_nil]
      simp only [LevA.rs, List.map_append, List.map_cons, List.map_nil, List.nil_append, List.append_assoc, List.cons_append]
      rfl
    · rcases List.mem_append.1 hx with hx | hx
      · exact hyp x hx
      · rw [List.mem_singleton.1 hx]; exact hop
theorem meet_abs {t : Tld} {com : Com} {s : Int} {L' L1 L2 : List LevA} {l : LevA} {o : OrdA} {ys : List OrdA} {c : Cmd} {left' : Nat} {ids ids' : List (Int × Value)} {evs' : List Evt} {seq' : Nat}
    (hs : s = 1 ∨ s = 2) (hbe : betL s L1 L2 = []) (hos : l.os = o :: ys) (hw : wfL (L1 ++ l :: L2)) (hso : sortL (L1 ++ l :: L2)) (hu : ∀ x ∈ ys.map (fun o => o.r) ++ absS s (worL s L1 L2), x.id ≠ o.r.id)
    (hsd : sideF t.b s = absS s (L1 ++ l :: L2)) (hci : c.id = com.id) (h : MeetL t.b.meet L' L1 l L2 o ys c com.left left' ids ids' t.l evs' t.b.seq seq') :
    meetF t com s (absS s (L1 ++ l :: L2)) o.r = (⟨withF { t.b with seq := seq' } s (absS s L'), evs'⟩, { com with left := left' }) ∧ wfL L' ∧ sortL L' := by
  have hfirst := abs_first hbe hos (s := s)
  have hwo : withoutF (absS s (L1 ++ l :: L2)) o.r.id = ys.map (fun o => o.r) ++ absS s (worL s L1 L2) := by
    rw [hfirst]
    exact without_mid (X := []) (by simpa using hu)
  unfold meetF
  dsimp only
  rw [hwo]
  unfold MeetL at h
  rw [hci] at h
  rcases h with ⟨h1, rfl, rfl, rfl, rfl, rfl⟩ | ⟨h1, hg, rfl, rfl, rfl, rfl⟩ | ⟨h1, hg, rfl, rfl, rfl, rfl⟩
  · rw [if_neg (show ¬ (t.b.meet = 2 ∨ t.b.meet = 3) by omega), if_pos (show t.b.meet = 1 ∨ t.b.meet = 3 by omega)]
    refine ⟨?_, hw, hso⟩
    rw [← hsd]
    have e : withF { t.b with seq := tickF t.b.seq } s (sideF t.b s) = { t.b with seq := tickF t.b.seq } := with_side { t.b with seq := tickF t.b.seq } s hs
    rw [e]
    rfl
  · obtain ⟨_, g2, g3, g4⟩ := gone_abs (s := s) (xs := []) hg hos hw hso
    rw [if_pos (show t.b.meet = 2 ∨ t.b.meet = 3 by omega), if_neg (show ¬ (t.b.meet = 1 ∨ t.b.meet = 3) by omega)]
    refine ⟨?_, g3, g4⟩
    rw [g2, hbe, abs_nil]
    rfl
  · obtain ⟨_, g2, g3, g4⟩ := gone_abs (s := s) (xs := []) hg hos hw hso
    rw [if_pos (show t.b.meet = 2 ∨ t.b.meet = 3 by omega), if_pos (show t.b.meet = 1 ∨ t.b.meet = 3 by omega)]
    refine ⟨?_, g3, g4⟩
    rw [g2, hbe, abs_nil]
    rcases hs with rfl | rfl <;> rfl
end Go.Rx
/- The book over trees: a whole book as data, and the map of its orders (plain). -/
namespace Go.Rx
open Go Go.RowKit
set_option linter.unusedVariables false
set_option linter.unusedSimpArgs false
theorem adel_filter : ∀ (ids : List (Int × Value)) (k : Int), (ids.map Prod.fst).Nodup → adel ids k = ids.filter fun p => decide (p.1 ≠ k)
  | [], _, _ => rfl
  | (a, x) :: r, k, h => by
    rw [List.map_cons, List.nodup_cons] at h
    unfold adel
    by_cases hc : k = a
    · rw [if_pos hc, List.filter_cons, if_neg (by simp [hc])]
      refine (List.filter_eq_self.2 fun p hp => ?_).symm
      have : p.1 ≠ a := fun e => h.1 (List.mem_map.2 ⟨p, hp, e⟩)
      simp [hc, this]
    · rw [if_neg hc, List.filter_cons, if_pos (by simp; exact fun e => hc e.symm), adel_filter r k h.2]
theorem adel_perm {ids X Y : List (Int × Value)} {k : Int} {v : Value} (hn : (ids.map Prod.fst).Nodup) (hp : ids.Perm (X ++ (k, v) :: Y)) : (adel ids k).Perm (X ++ Y) := by
  rw [adel_filter ids k hn]
  refine (hp.filter _).trans ?_
  have hn2 : ((X ++ (k, v) :: Y).map Prod.fst).Nodup := (hp.map Prod.fst).nodup_iff.1 hn
  have hne : ∀ p ∈ X ++ Y, p.1 ≠ k := by
    intro p hq e
    have hn3 : ((k, v) :: (X ++ Y) |>.map Prod.fst).Nodup := ((List.perm_middle (a := (k, v)) (l₁ := X) (l₂ := Y)).map Prod.fst).nodup_iff.1 hn2
    rw [List.map_cons, List.nodup_cons] at hn3
    exact hn3.1 (List.mem_map.2 ⟨p, hq, e⟩)
  rw [List.filter_append, List.filter_cons, if_neg (by simp), List.filter_eq_self.2 (fun p hq => by simpa using hne p (List.mem_append_left _ hq)), List.filter_eq_self.2 (fun p hq => by simpa using hne p (List.mem_append_right _ hq))]
theorem aput_perm : ∀ (ids : List (Int × Value)) (k : Int) (v : Value), k ∉ ids.map Prod.fst → (aput ids k v) = ids ++ [(k, v)]
  | [], _, _, _ => rfl
  | (a, x) :: r, k, v, h => by
    rw [List.map_cons, List.mem_cons, not_or] at h
    unfold aput
    rw [if_neg h.1, aput_perm r k v h.2]
    rfl
theorem aget_mem : ∀ {ids : List (Int × Value)} {k : Int} {v : Value}, (ids.map Prod.fst).Nodup → (k, v) ∈ ids → aget ids k = some v
  | (a, x) :: r, k, v, hn, h => by
    rw [List.map_cons, List.nodup_cons] at hn
    unfold aget
    rcases List.mem_cons.1 h with h1 | h1
    · cases h1
      rw [if_pos rfl]
    · by_cases hc : k = a
      · subst hc
        exact absurd (List.mem_map.2 ⟨(k, v), h1, rfl⟩) hn.1
      · rw [if_neg hc]
        exact aget_mem hn.2 h1
theorem aget_none : ∀ {ids : List (Int × Value)} {k : Int}, k ∉ ids.map Prod.fst → aget ids k = none
  | [], _, _ => rfl
  | (a, x) :: r, k, h => by
    rw [List.map_cons, List.mem_cons, not_or] at h
    unfold aget
    rw [if_neg h.1]
    exact aget_none h.2
def ordsL (L : List LevA) : List OrdA := L.flatMap fun l => l.os
theorem abs_perm (s : Int) (L : List LevA) : (absS s L).Perm ((ordsL L).map fun o => o.r) := by
  unfold absS ordsL
  rw [List.map_flatMap]
  split
  · exact (List.reverse_perm L).flatMap_right _
  · exact List.Perm.refl _
theorem ords_mid (L1 L2 : List LevA) (l : LevA) : ordsL (L1 ++ l :: L2) = ordsL L1 ++ (l.os ++ ordsL L2) := by simp [ordsL]
structure TS where
  t1 : Tr
  t2 : Tr
  B : List LevA
  S : List LevA
  ids : List (Int × Value)
def TS.tr (s : TS) (q : Int) : Tr := if q = 1 then s.t1 else s.t2
def TS.lv (s : TS) (q : Int) : List LevA := if q = 1 then s.B else s.S
def TS.put (s : TS) (q : Int) (t : Tr) (L : List LevA) (ids : List (Int × Value)) : TS := if q = 1 then { s with t1 := t, B := L, ids := ids } else { s with t2 := t, S := L, ids := ids }
def TS.pcs (s : TS) (bk : Nat) (cap meet : Int) (mb high seq : Nat) : List Chunk := [bookC bk cap meet s.t1.adr s.t2.adr mb high seq, treeC nodeT s.t1, treeC nodeT s.t2, .mq mb (Value.int .u64) s.ids, levsC 1 s.B, levsC 2 s.S]
structure SideOk (q : Int) (t : Tr) (L : List LevA) (l : List Rst) : Prop where
  tie : tieL t L
  ok : t.ok
  sort : sortL L
  wf : wfL L
  abs : absS q L = l
structure TOk (s : TS) (b : Bk) : Prop where
  one : SideOk 1 s.t1 s.B b.buys
  two : SideOk 2 s.t2 s.S b.sells
  map : s.ids.Perm ((ordsL s.B ++ ordsL s.S).map OrdA.ent)
  once : ((b.buys ++ b.sells).map fun r => r.id).Nodup
theorem TOk.side {s : TS} {b : Bk} (h : TOk s b) {q : Int} (hq : q = 1 ∨ q = 2) : SideOk q (s.tr q) (s.lv q) (sideF b q) := by
  rcases hq with rfl | rfl
  · exact h.one
  · exact h.two
theorem TOk.ids_once {s : TS} {b : Bk} (h : TOk s b) : (s.ids.map Prod.fst).Nodup := by
  have h1 : (s.ids.map Prod.fst).Perm ((b.buys ++ b.sells).map fun r => (r.id : Int)) := by
    refine (h.map.map Prod.fst).trans ?_
    rw [List.map_map]
    have h2 : ((b.buys ++ b.sells)).Perm ((ordsL s.B ++ ordsL s.S).map fun o => o.r) := by
      rw [← h.one.abs, ← h.two.abs, List.map_append]
      exact (abs_perm 1 s.B).append (abs_perm 2 s.S)
    have h3 := (h2.map fun r => (r.id : Int)).symm
    rw [List.map_map] at h3
    exact h3
  refine h1.nodup_iff.2 ?_
  have h4 := h.once
  rw [show (fun r : Rst => (r.id : Int)) = (fun n : Nat => (n : Int)) ∘ (fun r : Rst => r.id) from rfl, ← List.map_map]
  exact List.pairwise_map.2 (List.Pairwise.imp (fun hab e => hab (Int.ofNat.inj e)) h4)
theorem TOk.size {s : TS} {b : Bk} (h : TOk s b) : s.ids.length = b.buys.length + b.sells.length := by
  rw [h.map.length_eq, List.length_map, List.length_append, ← h.one.abs, ← h.two.abs, (abs_perm 1 s.B).length_eq, (abs_perm 2 s.S).length_eq, List.length_map, List.length_map]
end Go.Rx
/- The tree of the levels: its nodes gathered from a side on. -/
namespace Go.Rx
open Go Go.RowKit
set_option linter.unusedVariables false
set_option linter.unusedSimpArgs false
def gE (p : Int × Value) : List Value := [.int .i64 p.1, p.2, .int .i64 0, .int .i64 0, .pointer none, .pointer none]
abbrev gC (v : Value) (l : List (Int × Value)) : Chunk := .own nodeT 6 v l.length (l.flatMap gE)
def Tr.from0 (t : Tr) : List (Int × Value) := t.ins
def Tr.from1 (t : Tr) : List (Int × Value) := t.ins.reverse
theorem Tr.from0_node (a : Nat) (k : Int) (v : Value) (x y : Tr) : (Tr.node a k v x y).from0 = x.from0 ++ (k, v) :: y.from0 := by simp [Tr.from0, Tr.ins]
theorem Tr.from1_node (a : Nat) (k : Int) (v : Value) (x y : Tr) : (Tr.node a k v x y).from1 = y.from1 ++ (k, v) :: x.from1 := by simp [Tr.from1, Tr.ins]
theorem Tr.from0_len (t : Tr) : t.from0.length = t.size := t.size_ins
theorem Tr.from1_len (t : Tr) : t.from1.length = t.size := by rw [Tr.from1, List.length_reverse, t.size_ins]
set_option maxHeartbeats 2000000 in
set_option maxRecDepth 100000 in
theorem avlGatheredNil0 (w : World) (A : Option Addr) (ca : Nat) (l : List (Int × Value)) (hO : Own w [treeC nodeT .nil, gC (.slice A l.length ca) l]) :
    Spec Go.Proofs.Try.prog 127 #[.pointer none, .int .i64 0, .slice A l.length ca] w [treeC nodeT .nil, gC (.slice A l.length ca) l]
      (fun u H' => u = .slice A l.length ca ∧ H' = [treeC nodeT .nil, gC (.slice A l.length ca) l]) := by
  refine Spec.enter (fn := Go.Proofs.Try.f127) (n := 41) [.pointer none, .int .i64 0, .slice A l.length ca] Go.Proofs.Try.func127 (by kernel_rfl) rfl Go.Proofs.Try.ntmps127 Go.Proofs.Try.results127 rfl hO ?_
  refine JC.rs ?_
  refine Seq.p rfl Ev.assign ?_
  refine Seq.nil ?_
  refine JC.seq ?_
  refine JC.rs ?_
  refine Seq.p rfl Ev.move ?_
  refine Seq.p rfl (Ev.eqNilP und.p_avl_node_treebook_level) ?_
  refine Seq.nil ?_
  first | refine JC.c (ht := fun c8 => ?_) (hf := fun c8 => ?_) | refine JC.cb (ht := fun c8 => ?_) (hf := fun c8 => ?_)
  · -- then_t8
    refine JC.rs ?_
    refine Seq.p rfl Ev.move ?_
    refine Seq.p rfl Ev.assign ?_
    refine Seq.nil ?_
    refine JC.ret ?_
    show retQ _ _ _ _ _ _ _ _
    refine ret1 (hp := Part.refl _) (hpost := ?_)
    exact ⟨rfl, rfl⟩
  · -- else_t8
    first | exact absurd rfl c8 | (simp at c8)
set_option maxHeartbeats 2000000 in
set_option maxRecDepth 100000 in
theorem avlGathered0 (m : Nat) : ∀ (t : Tr) (w : World) (A : Option Addr) (ca : Nat) (l : List (Int × Value)), t.size ≤ m → (∀ p ∈ t.ins, ∃ b, p.2 = .pointer b) → l.length + t.size ≤ 1000000000 → Own w [treeC nodeT t, gC (.slice A l.length ca) l] →
    Spec Go.Proofs.Try.prog 127 #[t.ptr, .int .i64 0, .slice A l.length ca] w [treeC nodeT t, gC (.slice A l.length ca) l]
      (fun u H' => ∃ A' c', u = .slice A' (l ++ t.from0).length c' ∧ H' = [treeC nodeT t, gC (.slice A' (l ++ t.from0).length c') (l ++ t.from0)]) := by
  have hnil : ∀ (w : World) (A : Option Addr) (ca : Nat) (l : List (Int × Value)), Own w [treeC nodeT .nil, gC (.slice A l.length ca) l] →
      Spec Go.Proofs.Try.prog 127 #[(Tr.nil).ptr, .int .i64 0, .slice A l.length ca] w [treeC nodeT .nil, gC (.slice A l.length ca) l]
      (fun u H' => ∃ A' c', u = .slice A' (l ++ Tr.nil.from0).length c' ∧ H' = [treeC nodeT .nil, gC (.slice A' (l ++ Tr.nil.from0).length c') (l ++ Tr.nil.from0)]) := fun w A ca l hO => by
    have e : l ++ Tr.nil.from0 = l := by simp [Tr.from0, Tr.ins]
    rw [e]
    exact (avlGatheredNil0 w A ca l hO).mono fun v H' h => ⟨A, ca, h.1, h.2⟩
  induction m
  · intro t w A ca l hm hv hlim hO
    cases t with
    | nil => exact hnil w A ca l hO
    | node a k v x y => simp only [Tr.size] at hm; omega
  rename_i m ih
  intro t w A ca l hm hv hlim hO
  cases t
  · exact hnil w A ca l hO
  rename_i a k v x y
  obtain ⟨vb, rfl⟩ := hv (k, v) (by simp [Tr.ins])
  simp only [Tr.size] at hm hlim
  have hlp : (l ++ x.from0).length = l.length + x.size := by rw [List.length_append, Tr.from0_len]
  refine Spec.enter (fn := Go.Proofs.Try.f127) (n := 41) [.pointer (some ⟨a, 0, none⟩), .int .i64 0, .slice A l.length ca] Go.Proofs.Try.func127 (by kernel_rfl) rfl Go.Proofs.Try.ntmps127 Go.Proofs.Try.results127 rfl hO ?_
  refine JC.re (H' := [nodeC nodeT a k (.pointer vb) (1 + max x.high y.high) (1 + x.size + y.size) x.ptr y.ptr, treeC nodeT x, treeC nodeT y, gC (.slice A l.length ca) l]) (fun w h => by rw [treeC_node] at h; exact h.unpk0) ?_
  refine JC.rs ?_
  refine Seq.p rfl Ev.assign ?_
  refine Seq.nil ?_
  refine JC.seq ?_
  refine JC.rs ?_
  refine Seq.p rfl Ev.move ?_
  refine Seq.p rfl (Ev.eqNilP und.p_avl_node_treebook_level) ?_
  refine Seq.nil ?_
  first | refine JC.c (ht := fun c8 => ?_) (hf := fun c8 => ?_) | refine JC.cb (ht := fun c8 => ?_) (hf := fun c8 => ?_)
  · -- then_t8
    first | cases c8 | (simp at c8)
  · -- else_t8
    skip
    refine JC.skip ?_
    refine JC.rs ?_
    refine Seq.p rfl Ev.move ?_
    refine Seq.p rfl Ev.move ?_
    refine Seq.p rfl Ev.nilP ?_
    refine Seq.p rfl (Ev.fa fd.avl_node_treebook_level_4) ?_
    refine Seq.p rfl (Ev.iaArr ar.a2_p_avl_node_treebook_level) ?_
    refine Seq.p rfl (Ev.ldB sc.p_avl_node_treebook_level) ?_
    refine Seq.p rfl Ev.move ?_
    refine Seq.p rfl Ev.move ?_
    refine Seq.call rfl (fun w' hw => ih x w' A ca l (by omega) (fun p hp => hv p (by simp [Tr.ins, hp])) (by omega) (Part.own (by repeat (first | exact Part.nil _ | refine Part.at (by repeat (first | exact At.z | apply At.s)) ?_)) hw.own)) (Gs := [treeC nodeT x, gC (.slice A l.length ca) l]) (F := _) (Perm.at (by repeat (first | exact At.z | apply At.s)) (Perm.at (by repeat (first | exact At.z | apply At.s)) (Perm.none _))) ?_
    rintro _ _ ⟨A18, c18, rfl, rfl⟩
    try simp only [List.cons_append, List.nil_append, List.eraseIdx_cons_zero, List.eraseIdx_cons_succ]
    refine Seq.p rfl Ev.assign ?_
    refine Seq.nil ?_
    refine JC.asP ([nodeC nodeT a k (.pointer vb) (1 + max x.high y.high) (1 + x.size + y.size) x.ptr y.ptr, treeC nodeT x, treeC nodeT y]) mixed (by repeat (first | exact Part.nil _ | refine Part.at (by repeat (first | exact At.z | apply At.s)) ?_)) ?_
    refine Any.p 0 rfl (by kernel_rfl) (by kernel_rfl) (by kernel_rfl) rfl Ev.move ?_
    refine Any.p 1 rfl (by kernel_rfl) (by kernel_rfl) (by kernel_rfl) rfl Ev.move ?_
    refine Any.p 2 rfl (by kernel_rfl) (by kernel_rfl) (by kernel_rfl) rfl Ev.nilP ?_
    refine Any.p 3 rfl (by kernel_rfl) (by kernel_rfl) (by kernel_rfl) rfl (Ev.fa fd.avl_node_treebook_level_0) ?_
    refine Any.p 4 rfl (by kernel_rfl) (by kernel_rfl) (by kernel_rfl) rfl (Ev.ldB sc.int) ?_
    refine Any.p 5 rfl (by kernel_rfl) (by kernel_rfl) (by kernel_rfl) rfl Ev.move ?_
    refine Any.p 6 rfl (by kernel_rfl) (by kernel_rfl) (by kernel_rfl) rfl Ev.nilP ?_
    refine Any.p 7 rfl (by kernel_rfl) (by kernel_rfl) (by kernel_rfl) rfl (Ev.fa fd.avl_node_treebook_level_1) ?_
    refine Any.p 8 rfl (by kernel_rfl) (by kernel_rfl) (by kernel_rfl) rfl (Ev.ldB sc.p_treebook_level) ?_
    refine Any.p 9 rfl (by kernel_rfl) (by kernel_rfl) (by kernel_rfl) rfl (Ev.buildN [_, _, _, _, _, _] pl.avl_node_treebook_level z.avl_node_treebook_level) ?_
    refine Any.one 10 rfl (by kernel_rfl) ?_
    refine Seq.buildSlN (gE (k, Value.pointer vb)) (hsl := sl.sl_avl_node_treebook_level) (hz := z.avl_node_treebook_level) (k := ?_); intro b29
    refine Seq.nil ⟨(by repeat (first | exact Part.nil _ | refine Part.at (by repeat (first | exact At.z | apply At.s)) ?_)), ?_⟩
    refine Any.one 11 rfl (by kernel_rfl) ?_
    refine Seq.append (j := 1) (hsl := sl.sl_avl_node_treebook_level) (he := el.avl_node_treebook_level) (hsrc := fun w' hw => Src.box (news := gE (k, Value.pointer vb)) sl.sl_avl_node_treebook_level (by repeat (first | exact At.z | apply At.s)) hw rfl (fun q u hu => hu)) (k := ?_); intro A30 c30
    rw [show (l ++ x.from0).length + 1 = (l ++ x.from0 ++ [(k, Value.pointer vb)]).length by simp [Nat.add_assoc], show (l ++ x.from0).flatMap gE ++ gE (k, Value.pointer vb) = (l ++ x.from0 ++ [(k, Value.pointer vb)]).flatMap gE by simp [List.flatMap_append]]
    refine Seq.nil ⟨(by repeat (first | exact Part.nil _ | refine Part.at (by repeat (first | exact At.z | apply At.s)) ?_)), ?_⟩
    refine Any.p 12 rfl (by kernel_rfl) (by kernel_rfl) (by kernel_rfl) rfl Ev.assign ?_
    refine Any.done (by kernel_rfl) ?_
    refine JC.rs ?_
    refine Seq.p rfl Ev.move ?_
    refine Seq.p rfl Ev.move ?_
    refine Seq.p rfl Ev.sub ?_
    refine Seq.p rfl Ev.nilP ?_
    refine Seq.p rfl (Ev.fa fd.avl_node_treebook_level_4) ?_
    refine Seq.p rfl (Ev.iaArr ar.a2_p_avl_node_treebook_level) ?_
    refine Seq.p rfl (Ev.ldB sc.p_avl_node_treebook_level) ?_
    refine Seq.p rfl Ev.move ?_
    refine Seq.p rfl Ev.move ?_
    refine Seq.call rfl (fun w' hw => ih y w' A30 c30 (l ++ x.from0 ++ [(k, Value.pointer vb)]) (by omega) (fun p hp => hv p (by simp [Tr.ins, hp])) (by rw [List.length_append, hlp, List.length_singleton]; omega) (Part.own (by repeat (first | exact Part.nil _ | refine Part.at (by repeat (first | exact At.z | apply At.s)) ?_)) hw.own)) (Gs := [treeC nodeT y, gC (.slice A30 (l ++ x.from0 ++ [(k, Value.pointer vb)]).length c30) (l ++ x.from0 ++ [(k, Value.pointer vb)])]) (F := _) (Perm.at (by repeat (first | exact At.z | apply At.s)) (Perm.at (by repeat (first | exact At.z | apply At.s)) (Perm.none _))) ?_
    rintro _ _ ⟨A40, c40, rfl, rfl⟩
    try simp only [List.cons_append, List.nil_append, List.eraseIdx_cons_zero, List.eraseIdx_cons_succ]
    refine Seq.p rfl Ev.assign ?_
    refine Seq.nil ?_
    have he : l ++ x.from0 ++ [(k, Value.pointer vb)] ++ y.from0 = l ++ (Tr.node a k (.pointer vb) x y).from0 := by rw [Tr.from0_node]; simp
    rw [he]
    refine JC.re (H' := [treeC nodeT (.node a k (.pointer vb) x y), gC (.slice A40 (l ++ (Tr.node a k (.pointer vb) x y).from0).length c40) (l ++ (Tr.node a k (.pointer vb) x y).from0)]) (fun w h => Upd.pk (L := [nodeC nodeT a k (.pointer vb) (1 + max x.high y.high) (1 + x.size + y.size) x.ptr y.ptr, treeC nodeT x, treeC nodeT y]) (Upd.part h (by repeat (first | exact Part.nil _ | refine Part.at (by repeat (first | exact At.z | apply At.s)) ?_))) (List.Perm.refl _)) ?_
    refine JC.ret ?_
    show retQ _ _ _ _ _ _ _ _
    refine ret1 (hp := Part.refl _) (hpost := ?_)
    exact ⟨A40, c40, rfl, rfl⟩
set_option maxHeartbeats 2000000 in
set_option maxRecDepth 100000 in
theorem avlGatheredNil1 (w : World) (A : Option Addr) (ca : Nat) (l : List (Int × Value)) (hO : Own w [treeC nodeT .nil, gC (.slice A l.length ca) l]) :
    Spec Go.Proofs.Try.prog 127 #[.pointer none, .int .i64 1, .slice A l.length ca] w [treeC nodeT .nil, gC (.slice A l.length ca) l]
      (fun u H' => u = .slice A l.length ca ∧ H' = [treeC nodeT .nil, gC (.slice A l.length ca) l]) := by
  refine Spec.enter (fn := Go.Proofs.Try.f127) (n := 41) [.pointer none, .int .i64 1, .slice A l.length ca] Go.Proofs.Try.func127 (by kernel_rfl) rfl Go.Proofs.Try.ntmps127 Go.Proofs.Try.results127 rfl hO ?_
  refine JC.rs ?_
  refine Seq.p rfl Ev.assign ?_
  refine Seq.nil ?_
  refine JC.seq ?_
  refine JC.rs ?_
  refine Seq.p rfl Ev.move ?_
  refine Seq.p rfl (Ev.eqNilP und.p_avl_node_treebook_level) ?_
  refine Seq.nil ?_
  first | refine JC.c (ht := fun c8 => ?_) (hf := fun c8 => ?_) | refine JC.cb (ht := fun c8 => ?_) (hf := fun c8 => ?_)
  · -- then_t8
    refine JC.rs ?_
    refine Seq.p rfl Ev.move ?_
    refine Seq.p rfl Ev.assign ?_
    refine Seq.nil ?_
    refine JC.ret ?_
    show retQ _ _ _ _ _ _ _ _
    refine ret1 (hp := Part.refl _) (hpost := ?_)
    exact ⟨rfl, rfl⟩
  · -- else_t8
    first | exact absurd rfl c8 | (simp at c8)
set_option maxHeartbeats 2000000 in
set_option maxRecDepth 100000 in
theorem avlGathered1 (m : Nat) : ∀ (t : Tr) (w : World) (A : Option Addr) (ca : Nat) (l : List (Int × Value)), t.size ≤ m → (∀ p ∈ t.ins, ∃ b, p.2 = .pointer b) → l.length + t.size ≤ 1000000000 → Own w [treeC nodeT t, gC (.slice A l.length ca) l] →
    Spec Go.Proofs.Try.prog 127 #[t.ptr, .int .i64 1, .slice A l.length ca] w [treeC nodeT t, gC (.slice A l.length ca) l]
      (fun u H' => ∃ A' c', u = .slice A' (l ++ t.from1).length c' ∧ H' = [treeC nodeT t, gC (.slice A' (l ++ t.from1).length c') (l ++ t.from1)]) := by
  have hnil : ∀ (w : World) (A : Option Addr) (ca : Nat) (l : List (Int × Value)), Own w [treeC nodeT .nil, gC (.slice A l.length ca) l] →
      Spec Go.Proofs.Try.prog 127 #[(Tr.nil).ptr, .int .i64 1, .slice A l.length ca] w [treeC nodeT .nil, gC (.slice A l.length ca) l]
      (fun u H' => ∃ A' c', u = .slice A' (l ++ Tr.nil.from1).length c' ∧ H' = [treeC nodeT .nil, gC (.slice A' (l ++ Tr.nil.from1).length c') (l ++ Tr.nil.from1)]) := fun w A ca l hO => by
    have e : l ++ Tr.nil.from1 = l := by simp [Tr.from1, Tr.ins]
    rw [e]
    exact (avlGatheredNil1 w A ca l hO).mono fun v H' h => ⟨A, ca, h.1, h.2⟩
  induction m
  · intro t w A ca l hm hv hlim hO
    cases t with
    | nil => exact hnil w A ca l hO
    | node a k v x y => simp only [Tr.size] at hm; omega
  rename_i m ih
  intro t w A ca l hm hv hlim hO
  cases t
  · exact hnil w A ca l hO
  rename_i a k v x y
  obtain ⟨vb, rfl⟩ := hv (k, v) (by simp [Tr.ins])
  simp only [Tr.size] at hm hlim
  have hlp : (l ++ y.from1).length = l.length + y.size := by rw [List.length_append, Tr.from1_len]
  refine Spec.enter (fn := Go.Proofs.Try.f127) (n := 41) [.pointer (some ⟨a, 0, none⟩), .int .i64 1, .slice A l.length ca] Go.Proofs.Try.func127 (by kernel_rfl) rfl Go.Proofs.Try.ntmps127 Go.Proofs.Try.results127 rfl hO ?_
  refine JC.re (H' := [nodeC nodeT a k (.pointer vb) (1 + max x.high y.high) (1 + x.size + y.size) x.ptr y.ptr, treeC nodeT x, treeC nodeT y, gC (.slice A l.length ca) l]) (fun w h => by rw [treeC_node] at h; exact h.unpk0) ?_
  refine JC.rs ?_
  refine Seq.p rfl Ev.assign ?_
  refine Seq.nil ?_
  refine JC.seq ?_
  refine JC.rs ?_
  refine Seq.p rfl Ev.move ?_
  refine Seq.p rfl (Ev.eqNilP und.p_avl_node_treebook_level) ?_
  refine Seq.nil ?_
  first | refine JC.c (ht := fun c8 => ?_) (hf := fun c8 => ?_) | refine JC.cb (ht := fun c8 => ?_) (hf := fun c8 => ?_)
  · -- then_t8
    first | cases c8 | (simp at c8)
  · -- else_t8
    skip
    refine JC.skip ?_
    refine JC.rs ?_
    refine Seq.p rfl Ev.move ?_
    refine Seq.p rfl Ev.move ?_
    refine Seq.p rfl Ev.nilP ?_
    refine Seq.p rfl (Ev.fa fd.avl_node_treebook_level_4) ?_
    refine Seq.p rfl (Ev.iaArr ar.a2_p_avl_node_treebook_level) ?_
    refine Seq.p rfl (Ev.ldB sc.p_avl_node_treebook_level) ?_
    refine Seq.p rfl Ev.move ?_
    refine Seq.p rfl Ev.move ?_
    refine Seq.call rfl (fun w' hw => ih y w' A ca l (by omega) (fun p hp => hv p (by simp [Tr.ins, hp])) (by omega) (Part.own (by repeat (first | exact Part.nil _ | refine Part.at (by repeat (first | exact At.z | apply At.s)) ?_)) hw.own)) (Gs := [treeC nodeT y, gC (.slice A l.length ca) l]) (F := _) (Perm.at (by repeat (first | exact At.z | apply At.s)) (Perm.at (by repeat (first | exact At.z | apply At.s)) (Perm.none _))) ?_
    rintro _ _ ⟨A18, c18, rfl, rfl⟩
    try simp only [List.cons_append, List.nil_append, List.eraseIdx_cons_zero, List.eraseIdx_cons_succ]
    refine Seq.p rfl Ev.assign ?_
    refine Seq.nil ?_
    refine JC.asP ([nodeC nodeT a k (.pointer vb) (1 + max x.high y.high) (1 + x.size + y.size) x.ptr y.ptr, treeC nodeT x, treeC nodeT y]) mixed (by repeat (first | exact Part.nil _ | refine Part.at (by repeat (first | exact At.z | apply At.s)) ?_)) ?_
    refine Any.p 0 rfl (by kernel_rfl) (by kernel_rfl) (by kernel_rfl) rfl Ev.move ?_
    refine Any.p 1 rfl (by kernel_rfl) (by kernel_rfl) (by kernel_rfl) rfl Ev.move ?_
    refine Any.p 2 rfl (by kernel_rfl) (by kernel_rfl) (by kernel_rfl) rfl Ev.nilP ?_
    refine Any.p 3 rfl (by kernel_rfl) (by kernel_rfl) (by kernel_rfl) rfl (Ev.fa fd.avl_node_treebook_level_0) ?_
    refine Any.p 4 rfl (by kernel_rfl) (by kernel_rfl) (by kernel_rfl) rfl (Ev.ldB sc.int) ?_
    refine Any.p 5 rfl (by kernel_rfl) (by kernel_rfl) (by kernel_rfl) rfl Ev.move ?_
    refine Any.p 6 rfl (by kernel_rfl) (by kernel_rfl) (by kernel_rfl) rfl Ev.nilP ?_
    refine Any.p 7 rfl (by kernel_rfl) (by kernel_rfl) (by kernel_rfl) rfl (Ev.fa fd.avl_node_treebook_level_1) ?_
    refine Any.p 8 rfl (by kernel_rfl) (by kernel_rfl) (by kernel_rfl) rfl (Ev.ldB sc.p_treebook_level) ?_
    refine Any.p 9 rfl (by kernel_rfl) (by kernel_rfl) (by kernel_rfl) rfl (Ev.buildN [_, _, _, _, _, _] pl.avl_node_treebook_level z.avl_node_treebook_level) ?_
    refine Any.one 10 rfl (by kernel_rfl) ?_
    refine Seq.buildSlN (gE (k, Value.pointer vb)) (hsl := sl.sl_avl_node_treebook_level) (hz := z.avl_node_treebook_level) (k := ?_); intro b29
    refine Seq.nil ⟨(by repeat (first | exact Part.nil _ | refine Part.at (by repeat (first | exact At.z | apply At.s)) ?_)), ?_⟩
    refine Any.one 11 rfl (by kernel_rfl) ?_
    refine Seq.append (j := 1) (hsl := sl.sl_avl_node_treebook_level) (he := el.avl_node_treebook_level) (hsrc := fun w' hw => Src.box (news := gE (k, Value.pointer vb)) sl.sl_avl_node_treebook_level (by repeat (first | exact At.z | apply At.s)) hw rfl (fun q u hu => hu)) (k := ?_); intro A30 c30
    rw [show (l ++ y.from1).length + 1 = (l ++ y.from1 ++ [(k, Value.pointer vb)]).length by simp [Nat.add_assoc], show (l ++ y.from1).flatMap gE ++ gE (k, Value.pointer vb) = (l ++ y.from1 ++ [(k, Value.pointer vb)]).flatMap gE by simp [List.flatMap_append]]
    refine Seq.nil ⟨(by repeat (first | exact Part.nil _ | refine Part.at (by repeat (first | exact At.z | apply At.s)) ?_)), ?_⟩
    refine Any.p 12 rfl (by kernel_rfl) (by kernel_rfl) (by kernel_rfl) rfl Ev.assign ?_
    refine Any.done (by kernel_rfl) ?_
    refine JC.rs ?_
    refine Seq.p rfl Ev.move ?_
    refine Seq.p rfl Ev.move ?_
    refine Seq.p rfl Ev.sub ?_
    refine Seq.p rfl Ev.nilP ?_
    refine Seq.p rfl (Ev.fa fd.avl_node_treebook_level_4) ?_
    refine Seq.p rfl (Ev.iaArr ar.a2_p_avl_node_treebook_level) ?_
    refine Seq.p rfl (Ev.ldB sc.p_avl_node_treebook_level) ?_
    refine Seq.p rfl Ev.move ?_
    refine Seq.p rfl Ev.move ?_
    refine Seq.call rfl (fun w' hw => ih x w' A30 c30 (l ++ y.from1 ++ [(k, Value.pointer vb)]) (by omega) (fun p hp => hv p (by simp [Tr.ins, hp])) (by rw [List.length_append, hlp, List.length_singleton]; omega) (Part.own (by repeat (first | exact Part.nil _ | refine Part.at (by repeat (first | exact At.z | apply At.s)) ?_)) hw.own)) (Gs := [treeC nodeT x, gC (.slice A30 (l ++ y.from1 ++ [(k, Value.pointer vb)]).length c30) (l ++ y.from1 ++ [(k, Value.pointer vb)])]) (F := _) (Perm.at (by repeat (first | exact At.z | apply At.s)) (Perm.at (by repeat (first | exact At.z | apply At.s)) (Perm.none _))) ?_
    rintro _ _ ⟨A40, c40, rfl, rfl⟩
    try simp only [List.cons_append, List.nil_append, List.eraseIdx_cons_zero, List.eraseIdx_cons_succ]
    refine Seq.p rfl Ev.assign ?_
    refine Seq.nil ?_
    have he : l ++ y.from1 ++ [(k, Value.pointer vb)] ++ x.from1 = l ++ (Tr.node a k (.pointer vb) x y).from1 := by rw [Tr.from1_node]; simp
    rw [he]
    refine JC.re (H' := [treeC nodeT (.node a k (.pointer vb) x y), gC (.slice A40 (l ++ (Tr.node a k (.pointer vb) x y).from1).length c40) (l ++ (Tr.node a k (.pointer vb) x y).from1)]) (fun w h => Upd.pk (L := [nodeC nodeT a k (.pointer vb) (1 + max x.high y.high) (1 + x.size + y.size) x.ptr y.ptr, treeC nodeT x, treeC nodeT y]) (Upd.part h (by repeat (first | exact Part.nil _ | refine Part.at (by repeat (first | exact At.z | apply At.s)) ?_))) (List.Perm.refl _)) ?_
    refine JC.ret ?_
    show retQ _ _ _ _ _ _ _ _
    refine ret1 (hp := Part.refl _) (hpost := ?_)
    exact ⟨A40, c40, rfl, rfl⟩
end Go.Rx
/- The tree of the levels: going through it from a side on. -/
namespace Go.Rx
open Go Go.RowKit
set_option linter.unusedVariables false
set_option linter.unusedSimpArgs false
def Chunk.exact (c : Chunk) : Prop := ∀ w w' : World, c.ok w → c.ok w' → ∀ i, c.fp i → w'.heap[i]? = w.heap[i]?
theorem exact_box (b : Nat) (t : TypeId) (cs : List Value) : Chunk.exact (.box b t cs) := fun w w' h h' i hi => by
  cases hi
  rw [show w'.heap[b]? = _ from h', show w.heap[b]? = _ from h]
theorem exact_pk {L : List Chunk} (h : ∀ c ∈ L, c.exact) : Chunk.exact (.pk L) := fun w w' ho ho' i ⟨c, hc, hi⟩ => h c hc w w' (Own.ok ho c hc) (Own.ok ho' c hc) i hi
theorem exact_tree (T : TypeId) : ∀ t : Tr, (treeC T t).exact
  | .nil => exact_pk (by simp)
  | .node a k v l r => exact_pk fun c hc => by
    simp only [List.mem_cons, List.not_mem_nil, or_false] at hc
    rcases hc with rfl | rfl | rfl
    · exact exact_box _ _ _
    · exact exact_tree T l
    · exact exact_tree T r
theorem Upd.grownSame {W W' : World} {G H : List Chunk} (h : Upd W W' G H) (ho : Own W G) (hx : ∀ c ∈ G, c.exact ∧ c ∈ H) : W.grownBy W' none :=
  ⟨h.os, h.tape, h.output, h.size, fun i hi _ => by
    by_cases hc : ∃ c ∈ G, c.fp i
    · obtain ⟨c, hc, hci⟩ := hc
      exact (hx c hc).1 W W' (ho.ok c hc) (h.own.ok c (hx c hc).2) i hci
    · exact h.keep i hi fun c hm hci => hc ⟨c, hm, hci⟩⟩
theorem Own.below {w W : World} {G : List Chunk} (ho : Own w G) (h : Below w.heap.size w W) : Own W G :=
  ⟨fun c hc => c.stable (fun i hi => h.block i (c.live (ho.ok c hc) hi)) (ho.ok c hc), ho.sep⟩
abbrev EntT (t : Tr) := { p : Int × Value // p ∈ t.ins }
def entsT (t : Tr) (l : List (Int × Value)) (h : ∀ p ∈ l, p ∈ t.ins) : List (EntT t) := l.attach.map fun p => ⟨p.1, h p.1 p.2⟩
theorem entsT_val (t : Tr) (l : List (Int × Value)) (h : ∀ p ∈ l, p ∈ t.ins) : (entsT t l h).map Subtype.val = l := by
  unfold entsT
  rw [List.map_map]
  exact List.attach_map_subtype_val l
theorem from0_mem {t : Tr} : ∀ p ∈ t.from0, p ∈ t.ins := fun p h => h
theorem from1_mem {t : Tr} : ∀ p ∈ t.from1, p ∈ t.ins := fun p h => List.mem_reverse.1 h
set_option maxHeartbeats 2000000 in
set_option maxRecDepth 100000 in
theorem avlGoesStops0 {w : World} {tb k b1 b2 : Nat} {TB T1 T2 : TypeId} {cs : List Value} {t : Tr} (hO : Own w [.box b1 T1 [.pointer (some ⟨tb, k, none⟩)], .box b2 T2 [.int .i64 0], .box tb TB cs, treeC nodeT t]) (hck : cs[k]? = some t.ptr)
    (hv : ∀ p ∈ t.ins, ∃ b, p.2 = .pointer b) (hsz : t.size ≤ 100000) (m : Nat) :
    SeqStopsK (fenceR none) m Go.Proofs.Try.prog 126 #[.pointer (some ⟨b1, 0, none⟩), .pointer (some ⟨b2, 0, none⟩)] (fun x : EntT t => #[.int .i64 x.1.1, x.1.2]) (KpT nodeT)
      (fun xs => xs.map Subtype.val = t.from0) (fun pre => pre.map Subtype.val <+: t.from0) t.size w := by
  intro L J Jx W hW hJ hJx hY h0
  have hO1 := hO.below hW
  obtain ⟨lst, hlst⟩ : ∃ lst, lst = entsT t t.from0 from0_mem := ⟨_, rfl⟩
  have hlv : lst.map Subtype.val = t.from0 := by rw [hlst]; exact entsT_val ..
  have hll : lst.length = t.size := by rw [← List.length_map (f := Subtype.val), hlv, Tr.from0_len]
  have hget : ∀ i (h : i < lst.length) (h2 : i < t.from0.length), t.from0[i] = lst[i].1 := fun i h h2 => by
    have : (lst.map Subtype.val)[i]? = t.from0[i]? := by rw [hlv]
    rw [List.getElem?_map, List.getElem?_eq_getElem h, List.getElem?_eq_getElem h2] at this
    simpa using this.symm
  have hfl : t.from0.length = t.size := Tr.from0_len t
  refine (JW.enter (fn := Go.Proofs.Try.f126) (n := 25) (m := m) [.func (.yield L) #[] #[], .pointer (some ⟨b1, 0, none⟩), .pointer (some ⟨b2, 0, none⟩)] Go.Proofs.Try.func126 (by kernel_rfl) rfl Go.Proofs.Try.ntmps126 Go.Proofs.Try.results126 rfl (Post := fun w' => (∃ xs : List (EntT t), xs.map Subtype.val = t.from0 ∧ J xs w') ∨ (∃ pre : List (EntT t), pre.map Subtype.val <+: t.from0 ∧ Jx pre w')) ?_)
  refine JW.pre hO1 (JC.any mixed ?_)
  refine Any.p 0 rfl (by kernel_rfl) (by kernel_rfl) (by kernel_rfl) rfl (Ev.ldB sc.p_avl_Tree_treebook_level) ?_
  refine Any.p 1 rfl (by kernel_rfl) (by kernel_rfl) (by kernel_rfl) rfl Ev.nilP ?_
  refine Any.p 2 rfl (by kernel_rfl) (by kernel_rfl) (by kernel_rfl) rfl (Ev.faB fd.avl_Tree_treebook_level_0 (bk := tb) (o := k)) ?_
  refine Any.p 3 rfl (by kernel_rfl) (by kernel_rfl) (by kernel_rfl) rfl (Ev.ldS (v := t.ptr) sc.p_avl_node_treebook_level (fun w' hw' => Cells.cell (w0 := w') (Cs := []) (H := []) (Own.cellOf (b := tb) (T := TB) (cs := cs) (off := k) (Part.own (H' := [.box tb TB cs]) (by repeat (first | exact Part.nil _ | refine Part.at (by repeat (first | exact At.z | apply At.s)) ?_)) hw'.own) List.mem_cons_self hck) w' (Upd.refl0 w'))) ?_
  refine Any.p 4 rfl (by kernel_rfl) (by kernel_rfl) (by kernel_rfl) rfl (Ev.ldB sc.int) ?_
  refine Any.p 7 rfl (by kernel_rfl) (by kernel_rfl) (by kernel_rfl) rfl Ev.move ?_
  refine Any.one 5 rfl (by kernel_rfl) ?_
  refine Seq.re (fun w h => Upd.nilOwn h nodeT 6) ?_
  refine Seq.call rfl (fun w' hw => avlGathered0 t.size t w' none 0 [] (Nat.le_refl _) hv (by simp; omega) (Part.own (by repeat (first | exact Part.nil _ | refine Part.at (by repeat (first | exact At.z | apply At.s)) ?_)) hw.own)) (Gs := [treeC nodeT t, gC (.slice none 0 0) []]) (F := _) (Perm.at (by repeat (first | exact At.z | apply At.s)) (Perm.at (by repeat (first | exact At.z | apply At.s)) (Perm.none _))) ?_
  rintro _ _ ⟨A1, c1, rfl, rfl⟩
  simp only [List.nil_append, List.cons_append, List.eraseIdx_cons_zero, List.eraseIdx_cons_succ]
  refine Seq.nil ⟨(by repeat (first | exact Part.nil _ | refine Part.at (by repeat (first | exact At.z | apply At.s)) ?_)), ?_⟩
  refine Any.p 6 rfl (by kernel_rfl) (by kernel_rfl) (by kernel_rfl) rfl (Ev.lenH sl.sl_avl_node_treebook_level) ?_
  refine Any.done (by kernel_rfl) ?_
  intro W1 hu1
  have hJ1 : J [] W1 := hJ _ _ _ none h0 (hu1.grownSame hO1 (by
    intro c hc
    simp only [List.mem_cons, List.not_mem_nil, or_false] at hc
    rcases hc with rfl | rfl | rfl | rfl
    · exact ⟨exact_box _ _ _, by simp⟩
    · exact ⟨exact_box _ _ _, by simp⟩
    · exact ⟨exact_box _ _ _, by simp⟩
    · exact ⟨exact_tree _ _, by simp⟩)) (by simp)
  have hO2 : Own W1 [gC (.slice A1 t.from0.length c1) t.from0] := Part.own (by repeat (first | exact Part.nil _ | refine Part.at (by repeat (first | exact At.z | apply At.s)) ?_)) hu1.own
  refine JW.blk ?_
  refine JW.loop (fun k e1 W' => ∃ i : Nat, i ≤ t.size ∧ k = t.size - i ∧ Has [5, 13, 14, 15, 16, 17, 18, 19, 20, 21, 22, 23, 24] [(13, .int .i64 (i : Int))] _ e1 ∧ J (lst.take i) W' ∧ Own W' [gC (.slice A1 t.from0.length c1) t.from0]) t.size ⟨0, by omega, by omega, Has.mk Off.refl (allLook_cons (by repeat (first | exact Look.here | apply Look.there (hne := rfl) | exact Look.const | apply Look.mix rfl | exact Look.arg0 | apply Look.args | exact Look.func)) allLook_nil), by simpa using hJ1, hO2⟩ ?_
  rintro k' _ W' ⟨i, hi, rfl, ⟨u, rfl⟩, hJi, hOi⟩
  dsimp only [setL]
  refine JW.rs (Own.nil _) ?_
  refine Seq.p rfl Ev.lt ?_
  refine Seq.nil ?_
  intro W2 hu2
  have hOi2 := hOi.below hu2.below'
  have hJi2 : J (lst.take i) W2 := hJ _ _ _ none hJi hu2.grown0 (by simp)
  have hR2 : RSl gE 6 W2 [] (.slice A1 t.from0.length c1) t.from0 := (RAt.own (enc := gE) (v := .slice A1 t.from0.length c1) (xs := t.from0) (hs := by omega)).up (Upd.refl hOi2)
  refine JW.seq ?_
  first | refine JW.cp (ht := fun c14 => ?_) (hf := fun c14 => ?_) | refine JW.cb (ht := fun c14 => ?_) (hf := fun c14 => ?_)
  · refine JW.skip ?_
    have hil : i < lst.length := by omega
    have hif : i < t.from0.length := by omega
    obtain ⟨x, hx⟩ : ∃ x, x = lst[i] := ⟨_, rfl⟩
    have hxf : t.from0[i]! = x.1 := by rw [getElem!_pos t.from0 i hif, hget i hil hif, hx]
    obtain ⟨vb, hvb⟩ := hv x.1 x.2
    have htk : lst.take i ++ [x] = lst.take (i + 1) := by rw [hx]; exact List.take_append_getElem hil
    have hyd := fun W3 h => hY (lst.take i) x W3 h (by rw [List.length_take]; omega)
    refine JW.seq ?_
    refine JW.blk ?_
    refine JW.rs (Own.nil _) ?_
    refine Seq.p rfl (Ev.iaN sl.sl_avl_node_treebook_level (hr := hR2.r)) ?_
    refine Seq.p rfl (Ev.ldEA ag.avl_node_treebook_level (hr := hR2.r)) ?_
    rw [hxf, show gE x.1 = [.int .i64 x.1.1, x.1.2, .int .i64 0, .int .i64 0, .pointer none, .pointer none] from rfl, hvb]
    refine Seq.alloc (cs := [_, _, _, _, _, _]) (hz := z.avl_node_treebook_level) (k := ?_); intro b5
    refine Seq.storeN [_, _, _, _, _, _] sz.avl_node_treebook_level (k := ?_)
    refine Seq.nil ?_
    intro W3 hu3
    have hOi3 := hOi2.below hu3.below'
    have hJi3 : J (lst.take i) W3 := hJ _ _ _ none hJi2 hu3.grown0 (by simp)
    have hB3 := hu3.own
    refine JW.seq ?_
    refine JW.yield (k := 5) rfl (by kernel_rfl) rfl (G := [_]) hB3 (L := L) ?_
    dsimp only [List.take_succ_cons, List.take_zero]
    refine Seq.p rfl Ev.move ?_
    refine Seq.p rfl (Ev.faB fd.avl_node_treebook_level_0) ?_
    refine Seq.p rfl (Ev.ldB sc.int) ?_
    refine Seq.p rfl (Ev.faB fd.avl_node_treebook_level_1) ?_
    refine Seq.p rfl (Ev.ldB sc.p_treebook_level) ?_
    refine Seq.nil ?_
    intro W4 hu4
    have hg4 := hu4.grownSame hB3 (by intro c hc; rw [List.mem_singleton.1 hc]; exact ⟨exact_box _ _ _, by simp⟩)
    have hJi4 := hJ _ _ _ none hJi3 hg4 (by simp)
    have hy4 := hyd W4 hJi4
    dsimp only at hy4
    rw [hvb] at hy4
    refine ⟨rfl, YieldAt.mono hy4 ?_⟩
    rintro en W5 (⟨rfl, hJ5, hk5⟩ | ⟨rfl, hJ5⟩)
    · refine ⟨_, rfl, ?_⟩
      refine Seq.p rfl Ev.not ?_
      refine Seq.nil ?_
      intro W6 hu6
      have hJ6 : J (lst.take (i + 1)) W6 := by rw [← htk]; exact hJ _ _ _ none hJ5 hu6.grown0 (by simp)
      have hO6 := ((hk5.own (hOi3.grown hg4)).below hu6.below')
      refine JW.cb (ht := fun c23 => absurd c23 (by simp)) (hf := fun c23 => ?_)
      refine JW.skip ?_
      refine JW.reg (Own.nil _) ?_
      refine Seq.p rfl (by first | exact Ev.inc | exact Ev.add) ?_
      refine Seq.p rfl Ev.move ?_
      refine Seq.nil ?_
      intro W7 hu7
      exact ⟨t.size - (i + 1), by omega, i + 1, by omega, rfl, Has.mk (by repeat (first | refine Off.upd ?_ rfl | exact Off.mix | refine Off.mix2 ?_ rfl | exact Off.refl)) (allLook_cons (by repeat (first | exact Look.here | apply Look.there (hne := rfl) | exact Look.const | apply Look.mix rfl | exact Look.arg0 | apply Look.args | exact Look.func)) allLook_nil), hJ _ _ _ none hJ6 hu7.grown0 (by simp), hO6.below hu7.below'⟩
    · refine ⟨_, rfl, ?_⟩
      refine Seq.p rfl Ev.not ?_
      refine Seq.nil ?_
      intro W6 hu6
      refine JW.cb (ht := fun c23 => ?_) (hf := fun c23 => absurd c23 (by simp))
      refine JW.ret ?_
      refine ⟨.inr rfl, .inr ⟨lst.take (i + 1), ?_, by rw [← htk]; exact hJx _ _ _ none hJ5 hu6.grown0 (by simp)⟩⟩
      rw [List.map_take, hlv]
      exact List.take_prefix _ _
  · refine JW.exit ?_
    refine ⟨.inl rfl, .inl ⟨lst, hlv, ?_⟩⟩
    have e : lst.take i = lst := List.take_of_length_le (by omega)
    rw [← e]
    exact hJi2
set_option maxHeartbeats 2000000 in
set_option maxRecDepth 100000 in
theorem avlGoesStops1 {w : World} {tb k b1 b2 : Nat} {TB T1 T2 : TypeId} {cs : List Value} {t : Tr} (hO : Own w [.box b1 T1 [.pointer (some ⟨tb, k, none⟩)], .box b2 T2 [.int .i64 1], .box tb TB cs, treeC nodeT t]) (hck : cs[k]? = some t.ptr)
    (hv : ∀ p ∈ t.ins, ∃ b, p.2 = .pointer b) (hsz : t.size ≤ 100000) (m : Nat) :
    SeqStopsK (fenceR none) m Go.Proofs.Try.prog 126 #[.pointer (some ⟨b1, 0, none⟩), .pointer (some ⟨b2, 0, none⟩)] (fun x : EntT t => #[.int .i64 x.1.1, x.1.2]) (KpT nodeT)
      (fun xs => xs.map Subtype.val = t.from1) (fun pre => pre.map Subtype.val <+: t.from1) t.size w := by
  intro L J Jx W hW hJ hJx hY h0
  have hO1 := hO.below hW
  obtain ⟨lst, hlst⟩ : ∃ lst, lst = entsT t t.from1 from1_mem := ⟨_, rfl⟩
  have hlv : lst.map Subtype.val = t.from1 := by rw [hlst]; exact entsT_val ..
  have hll : lst.length = t.size := by rw [← List.length_map (f := Subtype.val), hlv, Tr.from1_len]
  have hget : ∀ i (h : i < lst.length) (h2 : i < t.from1.length), t.from1[i] = lst[i].1 := fun i h h2 => by
    have : (lst.map Subtype.val)[i]? = t.from1[i]? := by rw [hlv]
    rw [List.getElem?_map, List.getElem?_eq_getElem h, List.getElem?_eq_getElem h2] at this
    simpa using this.symm
  have hfl : t.from1.length = t.size := Tr.from1_len t
  refine (JW.enter (fn := Go.Proofs.Try.f126) (n := 25) (m := m) [.func (.yield L) #[] #[], .pointer (some ⟨b1, 0, none⟩), .pointer (some ⟨b2, 0, none⟩)] Go.Proofs.Try.func126 (by kernel_rfl) rfl Go.Proofs.Try.ntmps126 Go.Proofs.Try.results126 rfl (Post := fun w' => (∃ xs : List (EntT t), xs.map Subtype.val = t.from1 ∧ J xs w') ∨ (∃ pre : List (EntT t), pre.map Subtype.val <+: t.from1 ∧ Jx pre w')) ?_)
  refine JW.pre hO1 (JC.any mixed ?_)
  refine Any.p 0 rfl (by kernel_rfl) (by kernel_rfl) (by kernel_rfl) rfl (Ev.ldB sc.p_avl_Tree_treebook_level) ?_
  refine Any.p 1 rfl (by kernel_rfl) (by kernel_rfl) (by kernel_rfl) rfl Ev.nilP ?_
  refine Any.p 2 rfl (by kernel_rfl) (by kernel_rfl) (by kernel_rfl) rfl (Ev.faB fd.avl_Tree_treebook_level_0 (bk := tb) (o := k)) ?_
  refine Any.p 3 rfl (by kernel_rfl) (by kernel_rfl) (by kernel_rfl) rfl (Ev.ldS (v := t.ptr) sc.p_avl_node_treebook_level (fun w' hw' => Cells.cell (w0 := w') (Cs := []) (H := []) (Own.cellOf (b := tb) (T := TB) (cs := cs) (off := k) (Part.own (H' := [.box tb TB cs]) (by repeat (first | exact Part.nil _ | refine Part.at (by repeat (first | exact At.z | apply At.s)) ?_)) hw'.own) List.mem_cons_self hck) w' (Upd.refl0 w'))) ?_
  refine Any.p 4 rfl (by kernel_rfl) (by kernel_rfl) (by kernel_rfl) rfl (Ev.ldB sc.int) ?_
  refine Any.p 7 rfl (by kernel_rfl) (by kernel_rfl) (by kernel_rfl) rfl Ev.move ?_
  refine Any.one 5 rfl (by kernel_rfl) ?_
  refine Seq.re (fun w h => Upd.nilOwn h nodeT 6) ?_
  refine Seq.call rfl (fun w' hw => avlGathered1 t.size t w' none 0 [] (Nat.le_refl _) hv (by simp; omega) (Part.own (by repeat (first | exact Part.nil _ | refine Part.at (by repeat (first | exact At.z | apply At.s)) ?_)) hw.own)) (Gs := [treeC nodeT t, gC (.slice none 0 0) []]) (F := _) (Perm.at (by repeat (first | exact At.z | apply At.s)) (Perm.at (by repeat (first | exact At.z | apply At.s)) (Perm.none _))) ?_
  rintro _ _ ⟨A1, c1, rfl, rfl⟩
  simp only [List.nil_append, List.cons_append, List.eraseIdx_cons_zero, List.eraseIdx_cons_succ]
  refine Seq.nil ⟨(by repeat (first | exact Part.nil _ | refine Part.at (by repeat (first | exact At.z | apply At.s)) ?_)), ?_⟩
  refine Any.p 6 rfl (by kernel_rfl) (by kernel_rfl) (by kernel_rfl) rfl (Ev.lenH sl.sl_avl_node_treebook_level) ?_
  refine Any.done (by kernel_rfl) ?_
  intro W1 hu1
  have hJ1 : J [] W1 := hJ _ _ _ none h0 (hu1.grownSame hO1 (by
    intro c hc
    simp only [List.mem_cons, List.not_mem_nil, or_false] at hc
    rcases hc with rfl | rfl | rfl | rfl
    · exact ⟨exact_box _ _ _, by simp⟩
    · exact ⟨exact_box _ _ _, by simp⟩
    · exact ⟨exact_box _ _ _, by simp⟩
    · exact ⟨exact_tree _ _, by simp⟩)) (by simp)
  have hO2 : Own W1 [gC (.slice A1 t.from1.length c1) t.from1] := Part.own (by repeat (first | exact Part.nil _ | refine Part.at (by repeat (first | exact At.z | apply At.s)) ?_)) hu1.own
  refine JW.blk ?_
  refine JW.loop (fun k e1 W' => ∃ i : Nat, i ≤ t.size ∧ k = t.size - i ∧ Has [5, 13, 14, 15, 16, 17, 18, 19, 20, 21, 22, 23, 24] [(13, .int .i64 (i : Int))] _ e1 ∧ J (lst.take i) W' ∧ Own W' [gC (.slice A1 t.from1.length c1) t.from1]) t.size ⟨0, by omega, by omega, Has.mk Off.refl (allLook_cons (by repeat (first | exact Look.here | apply Look.there (hne := rfl) | exact Look.const | apply Look.mix rfl | exact Look.arg0 | apply Look.args | exact Look.func)) allLook_nil), by simpa using hJ1, hO2⟩ ?_
  rintro k' _ W' ⟨i, hi, rfl, ⟨u, rfl⟩, hJi, hOi⟩
  dsimp only [setL]
  refine JW.rs (Own.nil _) ?_
  refine Seq.p rfl Ev.lt ?_
  refine Seq.nil ?_
  intro W2 hu2
  have hOi2 := hOi.below hu2.below'
  have hJi2 : J (lst.take i) W2 := hJ _ _ _ none hJi hu2.grown0 (by simp)
  have hR2 : RSl gE 6 W2 [] (.slice A1 t.from1.length c1) t.from1 := (RAt.own (enc := gE) (v := .slice A1 t.from1.length c1) (xs := t.from1) (hs := by omega)).up (Upd.refl hOi2)
  refine JW.seq ?_
  first | refine JW.cp (ht := fun c14 => ?_) (hf := fun c14 => ?_) | refine JW.cb (ht := fun c14 => ?_) (hf := fun c14 => ?_)
  · refine JW.skip ?_
    have hil : i < lst.length := by omega
    have hif : i < t.from1.length := by omega
    obtain ⟨x, hx⟩ : ∃ x, x = lst[i] := ⟨_, rfl⟩
    have hxf : t.from1[i]! = x.1 := by rw [getElem!_pos t.from1 i hif, hget i hil hif, hx]
    obtain ⟨vb, hvb⟩ := hv x.1 x.2
    have htk : lst.take i ++ [x] = lst.take (i + 1) := by rw [hx]; exact List.take_append_getElem hil
    have hyd := fun W3 h => hY (lst.take i) x W3 h (by rw [List.length_take]; omega)
    refine JW.seq ?_
    refine JW.blk ?_
    refine JW.rs (Own.nil _) ?_
    refine Seq.p rfl (Ev.iaN sl.sl_avl_node_treebook_level (hr := hR2.r)) ?_
    refine Seq.p rfl (Ev.ldEA ag.avl_node_treebook_level (hr := hR2.r)) ?_
    rw [hxf, show gE x.1 = [.int .i64 x.1.1, x.1.2, .int .i64 0, .int .i64 0, .pointer none, .pointer none] from rfl, hvb]
    refine Seq.alloc (cs := [_, _, _, _, _, _]) (hz := z.avl_node_treebook_level) (k := ?_); intro b5
    refine Seq.storeN [_, _, _, _, _, _] sz.avl_node_treebook_level (k := ?_)
    refine Seq.nil ?_
    intro W3 hu3
    have hOi3 := hOi2.below hu3.below'
    have hJi3 : J (lst.take i) W3 := hJ _ _ _ none hJi2 hu3.grown0 (by simp)
    have hB3 := hu3.own
    refine JW.seq ?_
    refine JW.yield (k := 5) rfl (by kernel_rfl) rfl (G := [_]) hB3 (L := L) ?_
    dsimp only [List.take_succ_cons, List.take_zero]
    refine Seq.p rfl Ev.move ?_
    refine Seq.p rfl (Ev.faB fd.avl_node_treebook_level_0) ?_
    refine Seq.p rfl (Ev.ldB sc.int) ?_
    refine Seq.p rfl (Ev.faB fd.avl_node_treebook_level_1) ?_
    refine Seq.p rfl (Ev.ldB sc.p_treebook_level) ?_
    refine Seq.nil ?_
    intro W4 hu4
    have hg4 := hu4.grownSame hB3 (by intro c hc; rw [List.mem_singleton.1 hc]; exact ⟨exact_box _ _ _, by simp⟩)
    have hJi4 := hJ _ _ _ none hJi3 hg4 (by simp)
    have hy4 := hyd W4 hJi4
    dsimp only at hy4
    rw [hvb] at hy4
    refine ⟨rfl, YieldAt.mono hy4 ?_⟩
    rintro en W5 (⟨rfl, hJ5, hk5⟩ | ⟨rfl, hJ5⟩)
    · refine ⟨_, rfl, ?_⟩
      refine Seq.p rfl Ev.not ?_
      refine Seq.nil ?_
      intro W6 hu6
      have hJ6 : J (lst.take (i + 1)) W6 := by rw [← htk]; exact hJ _ _ _ none hJ5 hu6.grown0 (by simp)
      have hO6 := ((hk5.own (hOi3.grown hg4)).below hu6.below')
      refine JW.cb (ht := fun c23 => absurd c23 (by simp)) (hf := fun c23 => ?_)
      refine JW.skip ?_
      refine JW.reg (Own.nil _) ?_
      refine Seq.p rfl (by first | exact Ev.inc | exact Ev.add) ?_
      refine Seq.p rfl Ev.move ?_
      refine Seq.nil ?_
      intro W7 hu7
      exact ⟨t.size - (i + 1), by omega, i + 1, by omega, rfl, Has.mk (by repeat (first | refine Off.upd ?_ rfl | exact Off.mix | refine Off.mix2 ?_ rfl | exact Off.refl)) (allLook_cons (by repeat (first | exact Look.here | apply Look.there (hne := rfl) | exact Look.const | apply Look.mix rfl | exact Look.arg0 | apply Look.args | exact Look.func)) allLook_nil), hJ _ _ _ none hJ6 hu7.grown0 (by simp), hO6.below hu7.below'⟩
    · refine ⟨_, rfl, ?_⟩
      refine Seq.p rfl Ev.not ?_
      refine Seq.nil ?_
      intro W6 hu6
      refine JW.cb (ht := fun c23 => ?_) (hf := fun c23 => absurd c23 (by simp))
      refine JW.ret ?_
      refine ⟨.inr rfl, .inr ⟨lst.take (i + 1), ?_, by rw [← htk]; exact hJx _ _ _ none hJ5 hu6.grown0 (by simp)⟩⟩
      rw [List.map_take, hlv]
      exact List.take_prefix _ _
  · refine JW.exit ?_
    refine ⟨.inl rfl, .inl ⟨lst, hlv, ?_⟩⟩
    have e : lst.take i = lst := List.take_of_length_le (by omega)
    rw [← e]
    exact hJi2
end Go.Rx
/- The book over trees: a side's first levels. -/
namespace Go.Rx
open Go Go.RowKit
set_option linter.unusedVariables false
set_option linter.unusedSimpArgs false
abbrev tpT : TypeId := 149
abbrev inT : TypeId := 3
abbrev lpT : TypeId := 100
abbrev goesV (b c : Nat) : Value := .func (.func 126) #[] #[.pointer (some ⟨b, 0, none⟩), .pointer (some ⟨c, 0, none⟩)]
abbrev goesL (tb k : Nat) (s : Int) (b c : Nat) : List Chunk := [.box c inT [.int .i64 s], .box b tpT [.pointer (some ⟨tb, k, none⟩)]]
set_option maxHeartbeats 1000000 in
set_option maxRecDepth 100000 in
theorem avlGoes {w : World} {tb k : Nat} {s : Int} : Spec Go.Proofs.Try.prog 116 #[.pointer (some ⟨tb, k, none⟩), .int .i64 s] w [] (fun u H' => ∃ b c, u = goesV b c ∧ H' = goesL tb k s b c) := by
  refine Spec.enter (fn := Go.Proofs.Try.f116) (n := 6) [.pointer (some ⟨tb, k, none⟩), .int .i64 s] Go.Proofs.Try.func116 (by kernel_rfl) rfl Go.Proofs.Try.ntmps116 Go.Proofs.Try.results116 rfl (Own.nil _) ?_
  refine JC.rs ?_
  refine Seq.box (cs := [_]) (k := ?_); intro b2
  refine Seq.box (cs := [_]) (k := ?_); intro b3
  refine Seq.p rfl Ev.assign ?_
  refine Seq.nil ?_
  refine JC.rs ?_
  refine Seq.p rfl Ev.func ?_
  refine Seq.p rfl Ev.assign ?_
  refine Seq.nil ?_
  refine JC.ret ?_
  show retQ _ _ _ _ _ _ _ _
  refine ret1 (hp := Part.refl _) (hpost := ?_)
  exact ⟨_, _, rfl, rfl⟩
set_option maxHeartbeats 1000000 in
set_option maxRecDepth 100000 in
theorem avlAll {w : World} {tb k : Nat} : Spec Go.Proofs.Try.prog 86 #[.pointer (some ⟨tb, k, none⟩)] w [] (fun u H' => ∃ b c, u = goesV b c ∧ H' = goesL tb k 0 b c) := by
  refine Spec.enter (fn := Go.Proofs.Try.f86) (n := 5) [.pointer (some ⟨tb, k, none⟩)] Go.Proofs.Try.func86 (by kernel_rfl) rfl Go.Proofs.Try.ntmps86 Go.Proofs.Try.results86 rfl (Own.nil _) ?_
  refine JC.rs ?_
  refine Seq.p rfl Ev.assign ?_
  refine Seq.nil ?_
  refine JC.rs ?_
  refine Seq.p rfl Ev.move ?_
  refine Seq.call rfl (fun w' hw => avlGoes) (Gs := []) (F := _) (List.Perm.refl _) ?_
  rintro _ _ ⟨bb, cc, rfl, rfl⟩
  simp only [List.cons_append, List.nil_append]
  refine Seq.p rfl Ev.assign ?_
  refine Seq.nil ?_
  refine JC.ret ?_
  show retQ _ _ _ _ _ _ _ _
  refine ret1 (hp := Part.refl _) (hpost := ?_)
  exact ⟨_, _, rfl, rfl⟩
set_option maxHeartbeats 1000000 in
set_option maxRecDepth 100000 in
theorem avlBack {w : World} {tb k : Nat} : Spec Go.Proofs.Try.prog 87 #[.pointer (some ⟨tb, k, none⟩)] w [] (fun u H' => ∃ b c, u = goesV b c ∧ H' = goesL tb k 1 b c) := by
  refine Spec.enter (fn := Go.Proofs.Try.f87) (n := 5) [.pointer (some ⟨tb, k, none⟩)] Go.Proofs.Try.func87 (by kernel_rfl) rfl Go.Proofs.Try.ntmps87 Go.Proofs.Try.results87 rfl (Own.nil _) ?_
  refine JC.rs ?_
  refine Seq.p rfl Ev.assign ?_
  refine Seq.nil ?_
  refine JC.rs ?_
  refine Seq.p rfl Ev.move ?_
  refine Seq.call rfl (fun w' hw => avlGoes) (Gs := []) (F := _) (List.Perm.refl _) ?_
  rintro _ _ ⟨bb, cc, rfl, rfl⟩
  simp only [List.cons_append, List.nil_append]
  refine Seq.p rfl Ev.assign ?_
  refine Seq.nil ?_
  refine JC.ret ?_
  show retQ _ _ _ _ _ _ _ _
  refine ret1 (hp := Part.refl _) (hpost := ?_)
  exact ⟨_, _, rfl, rfl⟩
def levV (l : List (Int × Value)) (most : Nat) : List Value := (l.take most).map Prod.snd
abbrev levVC (A : Option Addr) (c : Nat) (l : List Value) : Chunk := .own lpT 1 (.slice A l.length c) l.length l
set_option maxHeartbeats 4000000 in
set_option maxRecDepth 100000 in
theorem tbLevels1 {w : World} {bk mb high seq most : Nat} {cap meet : Int} {qa : Option Addr} {t : Tr} (hv : ∀ p ∈ t.ins, ∃ b, p.2 = .pointer b) (hsz : t.size ≤ 100000) (hO : Own w [bookC bk cap meet t.adr qa mb high seq, treeC nodeT t]) :
    Spec Go.Proofs.Try.prog 51 #[.pointer (some ⟨bk, 0, none⟩), .int .i64 1, .int .i64 (most : Int)] w [bookC bk cap meet t.adr qa mb high seq, treeC nodeT t]
      (fun u H' => ∃ A c, u = .slice A (levV t.from1 most).length c ∧ H' = [bookC bk cap meet t.adr qa mb high seq, treeC nodeT t, levVC A c (levV t.from1 most)]) := by
  refine Spec.enterM (fn := Go.Proofs.Try.f51) (n := 33) [.pointer (some ⟨bk, 0, none⟩), .int .i64 1, .int .i64 (most : Int)] Go.Proofs.Try.func51 (by kernel_rfl) rfl Go.Proofs.Try.ntmps51 Go.Proofs.Try.results51 rfl hO ?_
  refine JM.rs rfl ?_
  refine Seq.box (cs := [_]) (k := ?_); intro b5
  refine Seq.p rfl Ev.assign ?_
  refine Seq.nil ?_
  refine JM.rs rfl ?_
  refine Seq.alloc (cs := [_]) (hz := z.sl_p_treebook_level) (k := ?_); intro b7
  refine Seq.nil ?_
  refine JM.rs rfl ?_
  refine Seq.p rfl Ev.move ?_
  refine Seq.p rfl Ev.move ?_
  refine Seq.callP rfl (fun w hw => tbTree1) ?_
  refine Seq.p rfl Ev.assign ?_
  refine Seq.nil ?_
  refine JM.rs rfl ?_
  refine Seq.p rfl Ev.move ?_
  refine Seq.call rfl (fun w' hw => avlAll) (Gs := []) (F := _) (List.Perm.refl _) ?_
  rintro _ _ ⟨ba, ca, rfl, rfl⟩
  simp only [List.cons_append, List.nil_append]
  refine Seq.p rfl Ev.assign ?_
  refine Seq.nil ?_
  refine JM.seq ?_
  refine JM.rs rfl ?_
  refine Seq.p rfl Ev.move ?_
  refine Seq.p rfl Ev.eq ?_
  refine Seq.nil ?_
  first | refine JM.c (ht := fun c18 => ?_) (hf := fun c18 => ?_) | refine JM.cb (ht := fun c18 => ?_) (hf := fun c18 => ?_)
  · -- then_t18
    refine JM.reg rfl ?_
    refine Seq.p rfl Ev.move ?_
    refine Seq.call rfl (fun w' hw => avlBack) (Gs := []) (F := _) (List.Perm.refl _) ?_
    rintro _ _ ⟨ba, ca, rfl, rfl⟩
    simp only [List.cons_append, List.nil_append]
    refine Seq.p rfl Ev.assign ?_
    refine Seq.nil ?_
    refine JM.seq ?_
    refine JM.rs rfl ?_
    refine Seq.p rfl Ev.move ?_
    refine Seq.nil ?_
    refine JM.blk ?_
    refine JM.re (fun w h => Upd.nilOwn h lpT 1) ?_
    refine JM.rangeH (α := EntT t) (v1 := fun x => .int .i64 x.1.1) (v2 := fun x => x.1.2) nodeT (S := fun xs => xs.map Subtype.val = t.from1) (Sp := fun pre => pre.map Subtype.val <+: t.from1) (N := t.size) [11, 22, 23, 24, 25, 26, 27, 28, 29, 30, 31] (fun x => [(11, x.1.2)])
      (fun pre G => ∃ A c l, l = pre.map (fun x => x.1.2) ∧ l.length ≤ most ∧ G = [.box b5 inT [.int .i64 (most : Int)], .box b7 120 [.slice A l.length c], levVC A c l])
      (fun cd pre G => ∃ A c l q x, pre = q ++ [x] ∧ l = q.map (fun x => x.1.2) ∧ l.length = most ∧ cd = .exit 0 ∧ G = [.box b5 inT [.int .i64 (most : Int)], .box b7 120 [.slice A l.length c], levVC A c l])
      (gf := 126) (lb := #[.pointer (some ⟨ba, 0, none⟩), .pointer (some ⟨ca, 0, none⟩)]) (hent := ⟨_, Go.Proofs.Try.func126, by kernel_rfl, rfl⟩) (hp1 := by rfl) (hp2 := by rfl)
      (hseq := fun m w hw => avlGoesStops1 (b1 := ba) (b2 := ca) (tb := bk) (k := 2) (TB := bookT) (cs := bkL cap meet t.adr qa mb high seq) (T1 := tpT) (T2 := inT) (Part.own (by repeat (first | exact Part.nil _ | refine Part.at (by repeat (first | exact At.z | apply At.s)) ?_)) hw.own) rfl hv hsz m)
      (L := [.box b5 inT [.int .i64 (most : Int)], .box b7 120 [.slice none 0 0], levVC none 0 []]) (F := _) (hp := Perm.at (by repeat (first | exact At.z | apply At.s)) (Perm.at (by repeat (first | exact At.z | apply At.s)) (Perm.at (by repeat (first | exact At.z | apply At.s)) (Perm.none _))))
      (hIb := ?_) (hIxb := ?_) (h0 := ⟨none, 0, [], rfl, by simp, rfl⟩) (hassign := ?_) (hbody := ?_) (hdone := ?_) (hstop := ?_)
    · rintro pre G ⟨A, c, l, rfl, hl, rfl⟩ d hd
      simp only [List.mem_cons, List.not_mem_nil, or_false] at hd
      rcases hd with rfl | rfl | rfl
      · exact but_box (by decide)
      · exact but_box (by decide)
      · exact but_own (by decide)
    · rintro cd pre G ⟨A, c, l, q, x, rfl, rfl, hl, rfl, rfl⟩ d hd
      simp only [List.mem_cons, List.not_mem_nil, or_false] at hd
      rcases hd with rfl | rfl | rfl
      · exact but_box (by decide)
      · exact but_box (by decide)
      · exact but_own (by decide)
    · -- assign
      intro ld x W0 G
      refine JM.reg rfl ?_
      refine Seq.p rfl Ev.assign ?_
      refine Seq.nil ?_
      exact ⟨rfl, rfl, Has.mk (by repeat (first | refine Off.upd ?_ rfl | exact Off.mix | refine Off.mix2 ?_ rfl | exact Off.refl)) (allLook_cons (by repeat (first | exact Look.here | apply Look.there (hne := rfl) | exact Look.const | apply Look.mix rfl | exact Look.arg0 | apply Look.args | exact Look.func)) allLook_nil), rfl⟩
    · -- body
      rintro ld pre x W0 _ _ hN ⟨A, c, l, rfl, hl, rfl⟩ ⟨u, rfl⟩
      dsimp only [setL]
      obtain ⟨l, hle⟩ : ∃ l, l = pre.map (fun x => x.1.2) := ⟨_, rfl⟩
      rw [← hle] at hl ⊢
      have hln : l.length < t.size := by rw [hle, List.length_map]; exact hN
      obtain ⟨vb, hvb⟩ := hv x.1 x.2
      rw [hvb]
      refine JM.blk ?_
      refine JM.seq ?_
      refine JM.rs rfl ?_
      refine Seq.p rfl (Ev.ldB sc.sl_p_treebook_level) ?_
      refine Seq.p rfl (Ev.lenH sl.sl_p_treebook_level) ?_
      refine Seq.p rfl (Ev.ldB sc.int) ?_
      refine Seq.p rfl Ev.ge ?_
      refine Seq.nil ?_
      first | refine JM.c (ht := fun c27 => ?_) (hf := fun c27 => ?_) | refine JM.cb (ht := fun c27 => ?_) (hf := fun c27 => ?_)
      · -- then_t27
        refine JM.exit ?_ -- 0
        exact ⟨rfl, A, c, l, pre, x, rfl, hle, by omega, rfl, rfl⟩
      · -- else_t27
        refine JM.skip ?_
        refine JM.reg rfl ?_
        refine Seq.p rfl (Ev.ldB sc.sl_p_treebook_level) ?_
        refine Seq.p rfl Ev.move ?_
        refine Seq.buildSlN [_] (hsl := sl.sl_p_treebook_level) (hz := z.p_treebook_level) (k := ?_); intro b30
        refine Seq.append (j := 1) (hsl := sl.sl_p_treebook_level) (he := el.p_treebook_level) (hsrc := fun w' hw => Src.box (news := [.pointer vb]) sl.sl_p_treebook_level (by repeat (first | exact At.z | apply At.s)) hw rfl (fun q u hu => hu)) (k := ?_); intro A31 c31
        rw [show l.length + 1 = (l ++ [Value.pointer vb]).length by simp]
        refine Seq.storeN [_] sz.sl_p_treebook_level (k := ?_)
        refine Seq.re (H' := [.box b5 inT [.int .i64 (most : Int)], .box b7 120 [.slice A31 (l ++ [Value.pointer vb]).length c31], levVC A31 c31 (l ++ [Value.pointer vb])]) (fun w hu => hu.part (by repeat (first | exact Part.nil _ | refine Part.at (by repeat (first | exact At.z | apply At.s)) ?_))) ?_
        refine Seq.nil ?_
        exact ⟨rfl, A31, c31, l ++ [Value.pointer vb], by rw [List.map_append, ← hle, ← hvb]; rfl, by simp; omega, rfl⟩
    · -- done
      rintro D xs _ hD hS ⟨A, c, l, hl, hle, rfl⟩
      simp only [List.cons_append, List.nil_append]
      have hx : l = levV t.from1 most := by rw [hl, levV, ← hS, List.take_of_length_le (by rw [List.length_map]; rw [hl, List.length_map] at hle; exact hle), List.map_map]; rfl
      refine JM.rs rfl ?_
      refine Seq.p rfl (Ev.ldB sc.sl_p_treebook_level) ?_
      refine Seq.p rfl Ev.assign ?_
      refine Seq.nil ?_
      refine JM.ret ?_
      show retM _ _ _ _ _ _ _ _ _
      refine retIM hD (RVs.t (hs := RVs.nil)) (H' := [bookC bk cap meet t.adr qa mb high seq, treeC nodeT t, levVC A c l]) (by repeat (first | exact Part.nil _ | refine Part.at (by repeat (first | exact At.z | apply At.s)) ?_)) ?_
      rw [hx]; exact ⟨A, c, rfl, rfl⟩
    · -- stop
      rintro D cd pre _ hD hS ⟨A, c, l, q, x, hpre, hl, hle, rfl, rfl⟩
      simp only [List.cons_append, List.nil_append]
      have hx : l = levV t.from1 most := by
        obtain ⟨r, hr⟩ := hS
        rw [hl, levV, ← hr, hpre, List.map_append, List.append_assoc, List.take_append_of_le_length (by rw [List.length_map, ← List.length_map (f := fun x : EntT t => x.1.2), ← hl, hle]; exact Nat.le_refl _), List.take_of_length_le (by rw [List.length_map, ← List.length_map (f := fun x : EntT t => x.1.2), ← hl, hle]; exact Nat.le_refl _), List.map_map]
        rfl
      · -- exit
        refine JM.exit ?_
        refine JM.rs rfl ?_
        refine Seq.p rfl (Ev.ldB sc.sl_p_treebook_level) ?_
        refine Seq.p rfl Ev.assign ?_
        refine Seq.nil ?_
        refine JM.ret ?_
        show retM _ _ _ _ _ _ _ _ _
        refine retIM hD (RVs.t (hs := RVs.nil)) (H' := [bookC bk cap meet t.adr qa mb high seq, treeC nodeT t, levVC A c l]) (by repeat (first | exact Part.nil _ | refine Part.at (by repeat (first | exact At.z | apply At.s)) ?_)) ?_
        rw [hx]; exact ⟨A, c, rfl, rfl⟩
  · -- else_t18
    exact absurd rfl c18
set_option maxHeartbeats 4000000 in
set_option maxRecDepth 100000 in
theorem tbLevels2 {w : World} {bk mb high seq most : Nat} {cap meet : Int} {qa : Option Addr} {t : Tr} (hv : ∀ p ∈ t.ins, ∃ b, p.2 = .pointer b) (hsz : t.size ≤ 100000) (hO : Own w [bookC bk cap meet qa t.adr mb high seq, treeC nodeT t]) :
    Spec Go.Proofs.Try.prog 51 #[.pointer (some ⟨bk, 0, none⟩), .int .i64 2, .int .i64 (most : Int)] w [bookC bk cap meet qa t.adr mb high seq, treeC nodeT t]
      (fun u H' => ∃ A c, u = .slice A (levV t.from0 most).length c ∧ H' = [bookC bk cap meet qa t.adr mb high seq, treeC nodeT t, levVC A c (levV t.from0 most)]) := by
  refine Spec.enterM (fn := Go.Proofs.Try.f51) (n := 33) [.pointer (some ⟨bk, 0, none⟩), .int .i64 2, .int .i64 (most : Int)] Go.Proofs.Try.func51 (by kernel_rfl) rfl Go.Proofs.Try.ntmps51 Go.Proofs.Try.results51 rfl hO ?_
  refine JM.rs rfl ?_
  refine Seq.box (cs := [_]) (k := ?_); intro b5
  refine Seq.p rfl Ev.assign ?_
  refine Seq.nil ?_
  refine JM.rs rfl ?_
  refine Seq.alloc (cs := [_]) (hz := z.sl_p_treebook_level) (k := ?_); intro b7
  refine Seq.nil ?_
  refine JM.rs rfl ?_
  refine Seq.p rfl Ev.move ?_
  refine Seq.p rfl Ev.move ?_
  refine Seq.callP rfl (fun w hw => tbTree2) ?_
  refine Seq.p rfl Ev.assign ?_
  refine Seq.nil ?_
  refine JM.rs rfl ?_
  refine Seq.p rfl Ev.move ?_
  refine Seq.call rfl (fun w' hw => avlAll) (Gs := []) (F := _) (List.Perm.refl _) ?_
  rintro _ _ ⟨ba, ca, rfl, rfl⟩
  simp only [List.cons_append, List.nil_append]
  refine Seq.p rfl Ev.assign ?_
  refine Seq.nil ?_
  refine JM.seq ?_
  refine JM.rs rfl ?_
  refine Seq.p rfl Ev.move ?_
  refine Seq.p rfl Ev.eq ?_
  refine Seq.nil ?_
  first | refine JM.c (ht := fun c18 => ?_) (hf := fun c18 => ?_) | refine JM.cb (ht := fun c18 => ?_) (hf := fun c18 => ?_)
  · -- then_t18
    exact absurd c18 (by decide)
  · -- else_t18
    refine JM.skip ?_
    refine JM.seq ?_
    refine JM.rs rfl ?_
    refine Seq.p rfl Ev.move ?_
    refine Seq.nil ?_
    refine JM.blk ?_
    refine JM.re (fun w h => Upd.nilOwn h lpT 1) ?_
    refine JM.rangeH (α := EntT t) (v1 := fun x => .int .i64 x.1.1) (v2 := fun x => x.1.2) nodeT (S := fun xs => xs.map Subtype.val = t.from0) (Sp := fun pre => pre.map Subtype.val <+: t.from0) (N := t.size) [11, 22, 23, 24, 25, 26, 27, 28, 29, 30, 31] (fun x => [(11, x.1.2)])
      (fun pre G => ∃ A c l, l = pre.map (fun x => x.1.2) ∧ l.length ≤ most ∧ G = [.box b5 inT [.int .i64 (most : Int)], .box b7 120 [.slice A l.length c], levVC A c l])
      (fun cd pre G => ∃ A c l q x, pre = q ++ [x] ∧ l = q.map (fun x => x.1.2) ∧ l.length = most ∧ cd = .exit 0 ∧ G = [.box b5 inT [.int .i64 (most : Int)], .box b7 120 [.slice A l.length c], levVC A c l])
      (gf := 126) (lb := #[.pointer (some ⟨ba, 0, none⟩), .pointer (some ⟨ca, 0, none⟩)]) (hent := ⟨_, Go.Proofs.Try.func126, by kernel_rfl, rfl⟩) (hp1 := by rfl) (hp2 := by rfl)
      (hseq := fun m w hw => avlGoesStops0 (b1 := ba) (b2 := ca) (tb := bk) (k := 3) (TB := bookT) (cs := bkL cap meet qa t.adr mb high seq) (T1 := tpT) (T2 := inT) (Part.own (by repeat (first | exact Part.nil _ | refine Part.at (by repeat (first | exact At.z | apply At.s)) ?_)) hw.own) rfl hv hsz m)
      (L := [.box b5 inT [.int .i64 (most : Int)], .box b7 120 [.slice none 0 0], levVC none 0 []]) (F := _) (hp := Perm.at (by repeat (first | exact At.z | apply At.s)) (Perm.at (by repeat (first | exact At.z | apply At.s)) (Perm.at (by repeat (first | exact At.z | apply At.s)) (Perm.none _))))
      (hIb := ?_) (hIxb := ?_) (h0 := ⟨none, 0, [], rfl, by simp, rfl⟩) (hassign := ?_) (hbody := ?_) (hdone := ?_) (hstop := ?_)
    · rintro pre G ⟨A, c, l, rfl, hl, rfl⟩ d hd
      simp only [List.mem_cons, List.not_mem_nil, or_false] at hd
      rcases hd with rfl | rfl | rfl
      · exact but_box (by decide)
      · exact but_box (by decide)
      · exact but_own (by decide)
    · rintro cd pre G ⟨A, c, l, q, x, rfl, rfl, hl, rfl, rfl⟩ d hd
      simp only [List.mem_cons, List.not_mem_nil, or_false] at hd
      rcases hd with rfl | rfl | rfl
      · exact but_box (by decide)
      · exact but_box (by decide)
      · exact but_own (by decide)
    · -- assign
      intro ld x W0 G
      refine JM.reg rfl ?_
      refine Seq.p rfl Ev.assign ?_
      refine Seq.nil ?_
      exact ⟨rfl, rfl, Has.mk (by repeat (first | refine Off.upd ?_ rfl | exact Off.mix | refine Off.mix2 ?_ rfl | exact Off.refl)) (allLook_cons (by repeat (first | exact Look.here | apply Look.there (hne := rfl) | exact Look.const | apply Look.mix rfl | exact Look.arg0 | apply Look.args | exact Look.func)) allLook_nil), rfl⟩
    · -- body
      rintro ld pre x W0 _ _ hN ⟨A, c, l, rfl, hl, rfl⟩ ⟨u, rfl⟩
      dsimp only [setL]
      obtain ⟨l, hle⟩ : ∃ l, l = pre.map (fun x => x.1.2) := ⟨_, rfl⟩
      rw [← hle] at hl ⊢
      have hln : l.length < t.size := by rw [hle, List.length_map]; exact hN
      obtain ⟨vb, hvb⟩ := hv x.1 x.2
      rw [hvb]
      refine JM.blk ?_
      refine JM.seq ?_
      refine JM.rs rfl ?_
      refine Seq.p rfl (Ev.ldB sc.sl_p_treebook_level) ?_
      refine Seq.p rfl (Ev.lenH sl.sl_p_treebook_level) ?_
      refine Seq.p rfl (Ev.ldB sc.int) ?_
      refine Seq.p rfl Ev.ge ?_
      refine Seq.nil ?_
      first | refine JM.c (ht := fun c27 => ?_) (hf := fun c27 => ?_) | refine JM.cb (ht := fun c27 => ?_) (hf := fun c27 => ?_)
      · -- then_t27
        refine JM.exit ?_ -- 0
        exact ⟨rfl, A, c, l, pre, x, rfl, hle, by omega, rfl, rfl⟩
      · -- else_t27
        refine JM.skip ?_
        refine JM.reg rfl ?_
        refine Seq.p rfl (Ev.ldB sc.sl_p_treebook_level) ?_
        refine Seq.p rfl Ev.move ?_
        refine Seq.buildSlN [_] (hsl := sl.sl_p_treebook_level) (hz := z.p_treebook_level) (k := ?_); intro b30
        refine Seq.append (j := 1) (hsl := sl.sl_p_treebook_level) (he := el.p_treebook_level) (hsrc := fun w' hw => Src.box (news := [.pointer vb]) sl.sl_p_treebook_level (by repeat (first | exact At.z | apply At.s)) hw rfl (fun q u hu => hu)) (k := ?_); intro A31 c31
        rw [show l.length + 1 = (l ++ [Value.pointer vb]).length by simp]
        refine Seq.storeN [_] sz.sl_p_treebook_level (k := ?_)
        refine Seq.re (H' := [.box b5 inT [.int .i64 (most : Int)], .box b7 120 [.slice A31 (l ++ [Value.pointer vb]).length c31], levVC A31 c31 (l ++ [Value.pointer vb])]) (fun w hu => hu.part (by repeat (first | exact Part.nil _ | refine Part.at (by repeat (first | exact At.z | apply At.s)) ?_))) ?_
        refine Seq.nil ?_
        exact ⟨rfl, A31, c31, l ++ [Value.pointer vb], by rw [List.map_append, ← hle, ← hvb]; rfl, by simp; omega, rfl⟩
    · -- done
      rintro D xs _ hD hS ⟨A, c, l, hl, hle, rfl⟩
      simp only [List.cons_append, List.nil_append]
      have hx : l = levV t.from0 most := by rw [hl, levV, ← hS, List.take_of_length_le (by rw [List.length_map]; rw [hl, List.length_map] at hle; exact hle), List.map_map]; rfl
      refine JM.rs rfl ?_
      refine Seq.p rfl (Ev.ldB sc.sl_p_treebook_level) ?_
      refine Seq.p rfl Ev.assign ?_
      refine Seq.nil ?_
      refine JM.ret ?_
      show retM _ _ _ _ _ _ _ _ _
      refine retIM hD (RVs.t (hs := RVs.nil)) (H' := [bookC bk cap meet qa t.adr mb high seq, treeC nodeT t, levVC A c l]) (by repeat (first | exact Part.nil _ | refine Part.at (by repeat (first | exact At.z | apply At.s)) ?_)) ?_
      rw [hx]; exact ⟨A, c, rfl, rfl⟩
    · -- stop
      rintro D cd pre _ hD hS ⟨A, c, l, q, x, hpre, hl, hle, rfl, rfl⟩
      simp only [List.cons_append, List.nil_append]
      have hx : l = levV t.from0 most := by
        obtain ⟨r, hr⟩ := hS
        rw [hl, levV, ← hr, hpre, List.map_append, List.append_assoc, List.take_append_of_le_length (by rw [List.length_map, ← List.length_map (f := fun x : EntT t => x.1.2), ← hl, hle]; exact Nat.le_refl _), List.take_of_length_le (by rw [List.length_map, ← List.length_map (f := fun x : EntT t => x.1.2), ← hl, hle]; exact Nat.le_refl _), List.map_map]
        rfl
      · -- exit
        refine JM.exit ?_
        refine JM.rs rfl ?_
        refine Seq.p rfl (Ev.ldB sc.sl_p_treebook_level) ?_
        refine Seq.p rfl Ev.assign ?_
        refine Seq.nil ?_
        refine JM.ret ?_
        show retM _ _ _ _ _ _ _ _ _
        refine retIM hD (RVs.t (hs := RVs.nil)) (H' := [bookC bk cap meet qa t.adr mb high seq, treeC nodeT t, levVC A c l]) (by repeat (first | exact Part.nil _ | refine Part.at (by repeat (first | exact At.z | apply At.s)) ?_)) ?_
        rw [hx]; exact ⟨A, c, rfl, rfl⟩
end Go.Rx
/- The book over trees: a side's orders told as a list. -/
namespace Go.Rx
open Go Go.RowKit
set_option linter.unusedVariables false
set_option linter.unusedSimpArgs false
def levE (l : LevA) : List Value := [.pointer (some ⟨l.a, 0, none⟩)]
theorem levE_len (M : List LevA) : (M.flatMap levE).length = M.length := by
  induction M with
  | nil => rfl
  | cons a M ih => rw [List.flatMap_cons, List.length_append, ih]; simp [levE]; omega
def sideM (s : Int) (L : List LevA) : List LevA := if s = 1 then L.reverse else L
theorem sideM_len (s : Int) (L : List LevA) : (sideM s L).length = L.length := by unfold sideM; split <;> simp
theorem sideM_mem {s : Int} {L : List LevA} {l : LevA} : l ∈ sideM s L ↔ l ∈ L := by unfold sideM; split <;> simp
theorem abs_sideM (s : Int) (L : List LevA) : absS s L = (sideM s L).flatMap LevA.rs := rfl
theorem lev_told {M : List LevA} : (M.map LevA.ent).map Prod.snd = M.flatMap levE := by
  induction M with
  | nil => rfl
  | cons a M ih => simp only [List.map_cons, List.flatMap_cons, ih]; rfl
theorem levV_1 {t : Tr} {L : List LevA} (ht : tieL t L) (most : Nat) : levV t.from1 most = ((sideM 1 L).take most).flatMap levE := by
  unfold levV Tr.from1 sideM
  rw [show t.ins = L.map LevA.ent from ht, if_pos rfl, ← List.map_reverse, ← List.map_take, lev_told]
theorem levV_2 {t : Tr} {L : List LevA} (ht : tieL t L) (most : Nat) : levV t.from0 most = ((sideM 2 L).take most).flatMap levE := by
  unfold levV Tr.from0 sideM
  rw [show t.ins = L.map LevA.ent from ht, if_neg (by decide), ← List.map_take, lev_told]
theorem split_at {M : List LevA} {L : List LevA} {s : Int} (h : M = sideM s L) {i : Nat} (hi : i < M.length) : ∃ L1 L2, L = L1 ++ M[i]! :: L2 := by
  have hm : M[i]! ∈ L := by rw [← sideM_mem (s := s), ← h, getElem!_pos M i hi]; exact List.getElem_mem hi
  exact List.append_of_mem hm
theorem order_cells {w0 : World} {Cs H : List Chunk} {b : Nat} {side : Int} {xs ys : List OrdA} {o : OrdA} (h : ∀ w, Upd w0 w Cs H → Own w [levelC b side (xs ++ o :: ys)]) : Cells w0 Cs H ⟨o.a, 0, none⟩ o.r.enc := by
  intro w hw j u hu
  have h1 : (o.cells (some ⟨b, 0, none⟩) (lastA none xs) (headA ys none))[j]? = some u := by
    rw [show o.cells (some ⟨b, 0, none⟩) (lastA none xs) (headA ys none) = o.r.enc ++ [.pointer (lastA none xs), .pointer (headA ys none), .pointer (some ⟨b, 0, none⟩)] from rfl, List.getElem?_append_left]
    · exact hu
    · exact (List.getElem?_eq_some_iff.1 hu).1
  have h2 := (order_cell (h w hw) h1).up (Upd.refl0 w)
  have e : (⟨o.a, 0, none⟩ : Addr).add j = ⟨o.a, j, none⟩ := by cases j <;> simp [Addr.add]
  rw [e]
  exact h2
set_option maxHeartbeats 4000000 in
set_option maxRecDepth 100000 in
theorem tbList1 {w : World} {bk mb high seq : Nat} {cap meet : Int} {qa : Option Addr} {t : Tr} {L : List LevA} (ht : tieL t L) (hsz : t.size ≤ 100000) (hn : (absS 1 L).length ≤ 1000000) (hO : Own w [bookC bk cap meet t.adr qa mb high seq, treeC nodeT t, levsC 1 L]) :
    Spec Go.Proofs.Try.prog 47 #[.pointer (some ⟨bk, 0, none⟩), .int .i64 1] w [bookC bk cap meet t.adr qa mb high seq, treeC nodeT t, levsC 1 L]
      (fun u H' => ∃ A c, u = .slice A (absS 1 L).length c ∧ H' = [bookC bk cap meet t.adr qa mb high seq, treeC nodeT t, levsC 1 L, rstL (.slice A (absS 1 L).length c) (absS 1 L)]) := by
  have hts := tie_size ht
  obtain ⟨M, hM⟩ : ∃ M, M = sideM 1 L := ⟨_, rfl⟩
  have hMl : M.length = t.size := by rw [hM, sideM_len, hts]
  have hab : absS 1 L = M.flatMap LevA.rs := by rw [hM]; rfl
  have hlev := levV_1 ht t.size
  rw [← hM, List.take_of_length_le (by omega)] at hlev
  have hll : (M.flatMap levE).length = M.length := levE_len M
  have hpre : ∀ i, i < M.length → (M.take i).flatMap LevA.rs ++ (M[i]!).rs = (M.take (i + 1)).flatMap LevA.rs := fun i hi => by
    rw [← List.take_append_getElem hi, List.flatMap_append, getElem!_pos M i hi]; simp
  have hbd : ∀ i, ((M.take i).flatMap LevA.rs).length ≤ 1000000 := fun i => by
    refine Nat.le_trans ?_ hn
    rw [hab]
    conv => rhs; rw [← List.take_append_drop i M, List.flatMap_append, List.length_append]
    omega
  refine Spec.enter (fn := Go.Proofs.Try.f47) (n := 40) [.pointer (some ⟨bk, 0, none⟩), .int .i64 1] Go.Proofs.Try.func47 (by kernel_rfl) rfl Go.Proofs.Try.ntmps47 Go.Proofs.Try.results47 rfl hO ?_
  refine JC.rs ?_
  refine Seq.p rfl Ev.assign ?_
  refine Seq.nil ?_
  refine JC.rs ?_
  refine Seq.p rfl Ev.assign ?_
  refine Seq.re (fun w h => Upd.nilOwn h 42 7) ?_
  refine Seq.nil ?_
  refine JC.seq ?_
  refine JC.rs ?_
  refine Seq.p rfl Ev.move ?_
  refine Seq.p rfl Ev.move ?_
  refine Seq.p rfl Ev.move ?_
  refine Seq.p rfl Ev.move ?_
  refine Seq.callP rfl (fun w hw => tbTree1) ?_
  refine Seq.callP rfl (fun w' hw => avlLen (tb := bk) (k := 2) (t := t) (Own.cellOf (b := bk) (T := bookT) (cs := bkL cap meet t.adr qa mb high seq) (Part.own (H' := [bookC bk cap meet t.adr qa mb high seq]) (by repeat (first | exact Part.nil _ | refine Part.at (by repeat (first | exact At.z | apply At.s)) ?_)) hw.own) List.mem_cons_self rfl) (Part.own (by repeat (first | exact Part.nil _ | refine Part.at (by repeat (first | exact At.z | apply At.s)) ?_)) hw.own)) ?_
  refine Seq.call rfl (fun w' hw => tbLevels1 (tie_vals ht) hsz (Part.own (by repeat (first | exact Part.nil _ | refine Part.at (by repeat (first | exact At.z | apply At.s)) ?_)) hw.own)) (Gs := [bookC bk cap meet t.adr qa mb high seq, treeC nodeT t]) (F := _) (Perm.at (by repeat (first | exact At.z | apply At.s)) (Perm.at (by repeat (first | exact At.z | apply At.s)) (Perm.none _))) ?_
  rintro _ _ ⟨Al, cl, rfl, rfl⟩
  rw [show levVC Al cl (levV t.from1 t.size) = .own lpT 1 (.slice Al M.length cl) M.length (M.flatMap levE) by unfold levVC; rw [hlev, hll], hlev, hll]
  simp only [List.cons_append, List.nil_append, List.eraseIdx_cons_zero, List.eraseIdx_cons_succ]
  refine Seq.p rfl (Ev.lenH sl.sl_p_treebook_level) ?_
  refine Seq.p rfl Ev.move ?_
  refine Seq.nil ?_
  refine JC.blk ?_
  refine JC.re (H' := [bookC bk cap meet t.adr qa mb high seq, treeC nodeT t, levsC 1 L, .own lpT 1 (.slice Al M.length cl) M.length (M.flatMap levE), rstL (.slice none 0 0) []]) (fun w hu => hu.part (by repeat (first | exact Part.nil _ | refine Part.at (by repeat (first | exact At.z | apply At.s)) ?_))) ?_
  refine JC.loop (α := Nat) (I := fun i e1 H1 => i ≤ M.length ∧ ∃ A c l, l = (M.take i).flatMap LevA.rs ∧ Has [5, 7, 8, 17, 18, 19, 20, 21, 22, 23, 24, 25, 26, 27, 28, 29, 30, 31, 32, 33, 34, 35, 36, 37, 38] [(5, .slice A l.length c), (17, .int .i64 (i : Int))] _ e1 ∧ H1 = [bookC bk cap meet t.adr qa mb high seq, treeC nodeT t, levsC 1 L, .own lpT 1 (.slice Al M.length cl) M.length (M.flatMap levE), rstL (.slice A l.length c) l]) (μ := fun i => M.length + 1 - i) 0 ⟨by omega, none, 0, [], by simp, Has.mk Off.refl (allLook_cons (by repeat (first | exact Look.here | apply Look.there (hne := rfl) | exact Look.const | apply Look.mix rfl | exact Look.arg0 | apply Look.args | exact Look.func)) (allLook_cons (by repeat (first | exact Look.here | apply Look.there (hne := rfl) | exact Look.const | apply Look.mix rfl | exact Look.arg0 | apply Look.args | exact Look.func)) allLook_nil)), rfl⟩ ?_
  rintro i _ _ ⟨hi, A, c, l, hl, ⟨u, rfl⟩, rfl⟩; dsimp only [setL]
  refine JC.rs ?_
  refine Seq.p rfl Ev.lt ?_
  refine Seq.nil ?_
  refine JC.seq ?_
  first | refine JC.c (ht := fun c18 => ?_) (hf := fun c18 => ?_) | refine JC.cb (ht := fun c18 => ?_) (hf := fun c18 => ?_)
  · -- then_t18
    have hi2 : i < M.length := by omega
    obtain ⟨L1, L2, hLL⟩ := split_at hM hi2
    obtain ⟨lv, hlv⟩ : ∃ lv, lv = M[i]! := ⟨_, rfl⟩
    rw [← hlv] at hLL
    have hpi := hpre i hi2
    rw [← hlv, ← hl] at hpi
    refine JC.skip ?_
    refine JC.seq ?_
    refine JC.blk ?_
    refine JC.rs ?_
    refine Seq.p rfl (Ev.iaN sl.sl_p_treebook_level (hr := RAt.own (enc := levE) (v := .slice Al M.length cl) (xs := M) (hs := by omega))) ?_
    refine Seq.p rfl (Ev.ldE1 sc.p_treebook_level (hr := RAt.own (enc := levE) (v := .slice Al M.length cl) (xs := M) (hs := by omega))) ?_
    rw [← hlv]
    refine Seq.p rfl Ev.assign ?_
    refine Seq.nil ?_
    refine JC.rs ?_
    refine Seq.p rfl Ev.move ?_
    refine Seq.p rfl Ev.nilP ?_
    refine Seq.p rfl (Ev.faB fd.treebook_level_1 (bk := lv.a) (o := 0)) ?_
    refine Seq.p rfl (Ev.ldS (v := .pointer (headA lv.os none)) sc.p_treebook_order (fun w hw => Cells.cell (w0 := w) (Cs := []) (H := []) (level_cell (side := 1) (levs_level (L1 := L1) (l := lv) (L2 := L2) (Part.own (by rw [← hLL]; repeat (first | exact Part.nil _ | refine Part.at (by repeat (first | exact At.z | apply At.s)) ?_)) hw.own)) rfl) w (Upd.refl0 w))) ?_
    refine Seq.p rfl Ev.assign ?_
    refine Seq.nil ?_
    refine JC.blk ?_
    refine JC.loop (α := List OrdA × List OrdA) (I := fun p e1 H1 => p.1 ++ p.2 = lv.os ∧ ∃ A c q, q = l ++ p.1.map (fun o => o.r) ∧ Has [5, 8, 25, 26, 27, 28, 29, 30, 31, 32, 33, 34, 35, 36, 37] [(5, .slice A q.length c), (8, .pointer (headA p.2 none))] _ e1 ∧ H1 = [bookC bk cap meet t.adr qa mb high seq, treeC nodeT t, levsC 1 L, .own lpT 1 (.slice Al M.length cl) M.length (M.flatMap levE), rstL (.slice A q.length c) q]) (μ := fun p => p.2.length) ([], lv.os) ⟨rfl, A, c, l, by simp, Has.mk Off.refl (allLook_cons (by repeat (first | exact Look.here | apply Look.there (hne := rfl) | exact Look.const | apply Look.mix rfl | exact Look.arg0 | apply Look.args | exact Look.func)) (allLook_cons (by repeat (first | exact Look.here | apply Look.there (hne := rfl) | exact Look.const | apply Look.mix rfl | exact Look.arg0 | apply Look.args | exact Look.func)) allLook_nil)), rfl⟩ ?_
    rintro ⟨xs, ys⟩ _ _ ⟨hxy, A2, c2, q, hq, ⟨u2, rfl⟩, rfl⟩; dsimp only [setL] at hxy hq ⊢
    rcases ys with _ | ⟨o, ys⟩
    · -- case 0
      rw [show headA [] none = none from rfl]
      refine JC.seq ?_
      refine JC.rs ?_
      refine Seq.p rfl Ev.move ?_
      refine Seq.p rfl (Ev.neNilP und.p_treebook_order) ?_
      refine Seq.nil ?_
      first | refine JC.c (ht := fun c26 => ?_) (hf := fun c26 => ?_) | refine JC.cb (ht := fun c26 => ?_) (hf := fun c26 => ?_)
      · -- then_t26
        exact absurd c26 (by simp)
      · -- else_t26
        have hqe : q = (M.take (i + 1)).flatMap LevA.rs := by rw [hq, ← hpi]; congr 1; rw [List.append_nil] at hxy; rw [hxy]; rfl
        refine JC.exit ?_ -- 2
        refine JC.reg ?_
        refine Seq.p rfl (by first | exact Ev.inc | exact Ev.add) ?_
        refine Seq.p rfl Ev.move ?_
        refine Seq.nil ?_
        exact ⟨i + 1, _, Part.refl _, ⟨by omega, A2, c2, q, hqe, Has.mk (by repeat (first | refine Off.upd ?_ rfl | exact Off.mix | refine Off.mix2 ?_ rfl | exact Off.refl)) (allLook_cons (by repeat (first | exact Look.here | apply Look.there (hne := rfl) | exact Look.const | apply Look.mix rfl | exact Look.arg0 | apply Look.args | exact Look.func)) (allLook_cons (by repeat (first | exact Look.here | apply Look.there (hne := rfl) | exact Look.const | apply Look.mix rfl | exact Look.arg0 | apply Look.args | exact Look.func)) allLook_nil)), rfl⟩, by omega⟩
    · -- case 1
      rw [show headA (o :: ys) none = some ⟨o.a, 0, none⟩ from rfl]
      have hlc : ∀ {w0 w : World} {Cs F : List Chunk}, Upd w0 w Cs F → Part [levsC 1 L] F → Own w [levelC lv.a 1 (xs ++ o :: ys)] := fun {w0 w Cs F} hu hp => by
        have h0 := hp.own hu.own
        rw [hLL] at h0
        have h := levs_level h0
        rw [← hxy] at h
        exact h
      have hqb : q.length ≤ 1000000 := by
        have h := hbd (i + 1)
        rw [← hpi, List.length_append] at h
        have h2 : lv.rs.length = lv.os.length := by simp [LevA.rs]
        have h3 := congrArg List.length hxy
        rw [List.length_append] at h3
        rw [hq, List.length_append, List.length_map]
        omega
      refine JC.seq ?_
      refine JC.rs ?_
      refine Seq.p rfl Ev.move ?_
      refine Seq.p rfl (Ev.neNilP und.p_treebook_order) ?_
      refine Seq.nil ?_
      first | refine JC.c (ht := fun c26 => ?_) (hf := fun c26 => ?_) | refine JC.cb (ht := fun c26 => ?_) (hf := fun c26 => ?_)
      · -- then_t26
        refine JC.skip ?_
        refine JC.seq ?_
        refine JC.blk ?_
        refine JC.reg ?_
        refine Seq.p rfl Ev.move ?_
        refine Seq.p rfl Ev.move ?_
        refine Seq.p rfl Ev.nilP ?_
        refine Seq.p rfl (Ev.faB fd.treebook_order_0 (bk := o.a) (o := 0)) ?_
        refine Seq.p rfl (Ev.ldA ag.api_Resting (order_cells (xs := xs) (ys := ys) (o := o) (fun w hu => hlc hu (by repeat (first | exact Part.nil _ | refine Part.at (by repeat (first | exact At.z | apply At.s)) ?_))))) ?_
        refine Seq.buildSlN [_, _, _, _, _, _, _] (hsl := sl.sl_api_Resting) (hz := z.api_Resting) (k := ?_); intro b36
        refine Seq.append (j := 1) (hsl := sl.sl_api_Resting) (he := el.api_Resting) (hsrc := fun w' hw => Src.box (news := o.r.enc) sl.sl_api_Resting (by repeat (first | exact At.z | apply At.s)) hw rfl (fun q u hu => hu)) (k := ?_); intro A37 c37
        rw [show q.length + 1 = (q ++ [o.r]).length by simp, show q.flatMap Rst.enc ++ o.r.enc = (q ++ [o.r]).flatMap Rst.enc by simp [List.flatMap_append]]
        refine Seq.p rfl Ev.assign ?_
        refine Seq.nil ?_
        refine JC.reg ?_
        refine Seq.p rfl Ev.move ?_
        refine Seq.p rfl Ev.nilP ?_
        refine Seq.p rfl (Ev.faB fd.treebook_order_2 (bk := o.a) (o := 0)) ?_
        refine Seq.p rfl (Ev.ldS (v := .pointer (headA ys none)) sc.p_treebook_order (fun w hw => Cells.cell (w0 := w) (Cs := []) (H := []) (order_cell (xs := xs) (ys := ys) (o := o) (hlc hw (by repeat (first | exact Part.nil _ | refine Part.at (by repeat (first | exact At.z | apply At.s)) ?_))) rfl) w (Upd.refl0 w))) ?_
        refine Seq.p rfl Ev.assign ?_
        refine Seq.nil ?_
        exact ⟨(xs ++ [o], ys), _, (show Part [bookC bk cap meet t.adr qa mb high seq, treeC nodeT t, levsC 1 L, .own lpT 1 (.slice Al M.length cl) M.length (M.flatMap levE), rstL (.slice A37 (q ++ [o.r]).length c37) (q ++ [o.r])] _ from (by repeat (first | exact Part.nil _ | refine Part.at (by repeat (first | exact At.z | apply At.s)) ?_))), ⟨by rw [← hxy]; simp, A37, c37, q ++ [o.r], by rw [hq]; simp, Has.mk (by repeat (first | refine Off.upd ?_ rfl | exact Off.mix | refine Off.mix2 ?_ rfl | exact Off.refl)) (allLook_cons (by repeat (first | exact Look.here | apply Look.there (hne := rfl) | exact Look.const | apply Look.mix rfl | exact Look.arg0 | apply Look.args | exact Look.func)) (allLook_cons (by repeat (first | exact Look.here | apply Look.there (hne := rfl) | exact Look.const | apply Look.mix rfl | exact Look.arg0 | apply Look.args | exact Look.func)) allLook_nil)), rfl⟩, by simp⟩
      · -- else_t26
        exact absurd c26 (by simp)
  · -- else_t18
    have hie : i = M.length := by omega
    have hle : l = absS 1 L := by rw [hl, hab, hie, List.take_length]
    refine JC.exit ?_ -- 0
    refine JC.rs ?_
    refine Seq.p rfl Ev.move ?_
    refine Seq.p rfl Ev.assign ?_
    refine Seq.nil ?_
    refine JC.ret ?_
    show retQ _ _ _ _ _ _ _ _
    refine ret1 (H' := [bookC bk cap meet t.adr qa mb high seq, treeC nodeT t, levsC 1 L, rstL (.slice A l.length c) l]) (hp := (by repeat (first | exact Part.nil _ | refine Part.at (by repeat (first | exact At.z | apply At.s)) ?_))) (hpost := ?_)
    rw [← hle]; exact ⟨A, c, rfl, rfl⟩
set_option maxHeartbeats 4000000 in
set_option maxRecDepth 100000 in
theorem tbList2 {w : World} {bk mb high seq : Nat} {cap meet : Int} {qa : Option Addr} {t : Tr} {L : List LevA} (ht : tieL t L) (hsz : t.size ≤ 100000) (hn : (absS 2 L).length ≤ 1000000) (hO : Own w [bookC bk cap meet qa t.adr mb high seq, treeC nodeT t, levsC 2 L]) :
    Spec Go.Proofs.Try.prog 47 #[.pointer (some ⟨bk, 0, none⟩), .int .i64 2] w [bookC bk cap meet qa t.adr mb high seq, treeC nodeT t, levsC 2 L]
      (fun u H' => ∃ A c, u = .slice A (absS 2 L).length c ∧ H' = [bookC bk cap meet qa t.adr mb high seq, treeC nodeT t, levsC 2 L, rstL (.slice A (absS 2 L).length c) (absS 2 L)]) := by
  have hts := tie_size ht
  obtain ⟨M, hM⟩ : ∃ M, M = sideM 2 L := ⟨_, rfl⟩
  have hMl : M.length = t.size := by rw [hM, sideM_len, hts]
  have hab : absS 2 L = M.flatMap LevA.rs := by rw [hM]; rfl
  have hlev := levV_2 ht t.size
  rw [← hM, List.take_of_length_le (by omega)] at hlev
  have hll : (M.flatMap levE).length = M.length := levE_len M
  have hpre : ∀ i, i < M.length → (M.take i).flatMap LevA.rs ++ (M[i]!).rs = (M.take (i + 1)).flatMap LevA.rs := fun i hi => by
    rw [← List.take_append_getElem hi, List.flatMap_append, getElem!_pos M i hi]; simp
  have hbd : ∀ i, ((M.take i).flatMap LevA.rs).length ≤ 1000000 := fun i => by
    refine Nat.le_trans ?_ hn
    rw [hab]
    conv => rhs; rw [← List.take_append_drop i M, List.flatMap_append, List.length_append]
    omega
  refine Spec.enter (fn := Go.Proofs.Try.f47) (n := 40) [.pointer (some ⟨bk, 0, none⟩), .int .i64 2] Go.Proofs.Try.func47 (by kernel_rfl) rfl Go.Proofs.Try.ntmps47 Go.Proofs.Try.results47 rfl hO ?_
  refine JC.rs ?_
  refine Seq.p rfl Ev.assign ?_
  refine Seq.nil ?_
  refine JC.rs ?_
  refine Seq.p rfl Ev.assign ?_
  refine Seq.re (fun w h => Upd.nilOwn h 42 7) ?_
  refine Seq.nil ?_
  refine JC.seq ?_
  refine JC.rs ?_
  refine Seq.p rfl Ev.move ?_
  refine Seq.p rfl Ev.move ?_
  refine Seq.p rfl Ev.move ?_
  refine Seq.p rfl Ev.move ?_
  refine Seq.callP rfl (fun w hw => tbTree2) ?_
  refine Seq.callP rfl (fun w' hw => avlLen (tb := bk) (k := 3) (t := t) (Own.cellOf (b := bk) (T := bookT) (cs := bkL cap meet qa t.adr mb high seq) (Part.own (H' := [bookC bk cap meet qa t.adr mb high seq]) (by repeat (first | exact Part.nil _ | refine Part.at (by repeat (first | exact At.z | apply At.s)) ?_)) hw.own) List.mem_cons_self rfl) (Part.own (by repeat (first | exact Part.nil _ | refine Part.at (by repeat (first | exact At.z | apply At.s)) ?_)) hw.own)) ?_
  refine Seq.call rfl (fun w' hw => tbLevels2 (tie_vals ht) hsz (Part.own (by repeat (first | exact Part.nil _ | refine Part.at (by repeat (first | exact At.z | apply At.s)) ?_)) hw.own)) (Gs := [bookC bk cap meet qa t.adr mb high seq, treeC nodeT t]) (F := _) (Perm.at (by repeat (first | exact At.z | apply At.s)) (Perm.at (by repeat (first | exact At.z | apply At.s)) (Perm.none _))) ?_
  rintro _ _ ⟨Al, cl, rfl, rfl⟩
  rw [show levVC Al cl (levV t.from0 t.size) = .own lpT 1 (.slice Al M.length cl) M.length (M.flatMap levE) by unfold levVC; rw [hlev, hll], hlev, hll]
  simp only [List.cons_append, List.nil_append, List.eraseIdx_cons_zero, List.eraseIdx_cons_succ]
  refine Seq.p rfl (Ev.lenH sl.sl_p_treebook_level) ?_
  refine Seq.p rfl Ev.move ?_
  refine Seq.nil ?_
  refine JC.blk ?_
  refine JC.re (H' := [bookC bk cap meet qa t.adr mb high seq, treeC nodeT t, levsC 2 L, .own lpT 1 (.slice Al M.length cl) M.length (M.flatMap levE), rstL (.slice none 0 0) []]) (fun w hu => hu.part (by repeat (first | exact Part.nil _ | refine Part.at (by repeat (first | exact At.z | apply At.s)) ?_))) ?_
  refine JC.loop (α := Nat) (I := fun i e1 H1 => i ≤ M.length ∧ ∃ A c l, l = (M.take i).flatMap LevA.rs ∧ Has [5, 7, 8, 17, 18, 19, 20, 21, 22, 23, 24, 25, 26, 27, 28, 29, 30, 31, 32, 33, 34, 35, 36, 37, 38] [(5, .slice A l.length c), (17, .int .i64 (i : Int))] _ e1 ∧ H1 = [bookC bk cap meet qa t.adr mb high seq, treeC nodeT t, levsC 2 L, .own lpT 1 (.slice Al M.length cl) M.length (M.flatMap levE), rstL (.slice A l.length c) l]) (μ := fun i => M.length + 1 - i) 0 ⟨by omega, none, 0, [], by simp, Has.mk Off.refl (allLook_cons (by repeat (first | exact Look.here | apply Look.there (hne := rfl) | exact Look.const | apply Look.mix rfl | exact Look.arg0 | apply Look.args | exact Look.func)) (allLook_cons (by repeat (first | exact Look.here | apply Look.there (hne := rfl) | exact Look.const | apply Look.mix rfl | exact Look.arg0 | apply Look.args | exact Look.func)) allLook_nil)), rfl⟩ ?_
  rintro i _ _ ⟨hi, A, c, l, hl, ⟨u, rfl⟩, rfl⟩; dsimp only [setL]
  refine JC.rs ?_
  refine Seq.p rfl Ev.lt ?_
  refine Seq.nil ?_
  refine JC.seq ?_
  first | refine JC.c (ht := fun c18 => ?_) (hf := fun c18 => ?_) | refine JC.cb (ht := fun c18 => ?_) (hf := fun c18 => ?_)
  · -- then_t18
    have hi2 : i < M.length := by omega
    obtain ⟨L1, L2, hLL⟩ := split_at hM hi2
    obtain ⟨lv, hlv⟩ : ∃ lv, lv = M[i]! := ⟨_, rfl⟩
    rw [← hlv] at hLL
    have hpi := hpre i hi2
    rw [← hlv, ← hl] at hpi
    refine JC.skip ?_
    refine JC.seq ?_
    refine JC.blk ?_
    refine JC.rs ?_
    refine Seq.p rfl (Ev.iaN sl.sl_p_treebook_level (hr := RAt.own (enc := levE) (v := .slice Al M.length cl) (xs := M) (hs := by omega))) ?_
    refine Seq.p rfl (Ev.ldE1 sc.p_treebook_level (hr := RAt.own (enc := levE) (v := .slice Al M.length cl) (xs := M) (hs := by omega))) ?_
    rw [← hlv]
    refine Seq.p rfl Ev.assign ?_
    refine Seq.nil ?_
    refine JC.rs ?_
    refine Seq.p rfl Ev.move ?_
    refine Seq.p rfl Ev.nilP ?_
    refine Seq.p rfl (Ev.faB fd.treebook_level_1 (bk := lv.a) (o := 0)) ?_
    refine Seq.p rfl (Ev.ldS (v := .pointer (headA lv.os none)) sc.p_treebook_order (fun w hw => Cells.cell (w0 := w) (Cs := []) (H := []) (level_cell (side := 2) (levs_level (L1 := L1) (l := lv) (L2 := L2) (Part.own (by rw [← hLL]; repeat (first | exact Part.nil _ | refine Part.at (by repeat (first | exact At.z | apply At.s)) ?_)) hw.own)) rfl) w (Upd.refl0 w))) ?_
    refine Seq.p rfl Ev.assign ?_
    refine Seq.nil ?_
    refine JC.blk ?_
    refine JC.loop (α := List OrdA × List OrdA) (I := fun p e1 H1 => p.1 ++ p.2 = lv.os ∧ ∃ A c q, q = l ++ p.1.map (fun o => o.r) ∧ Has [5, 8, 25, 26, 27, 28, 29, 30, 31, 32, 33, 34, 35, 36, 37] [(5, .slice A q.length c), (8, .pointer (headA p.2 none))] _ e1 ∧ H1 = [bookC bk cap meet qa t.adr mb high seq, treeC nodeT t, levsC 2 L, .own lpT 1 (.slice Al M.length cl) M.length (M.flatMap levE), rstL (.slice A q.length c) q]) (μ := fun p => p.2.length) ([], lv.os) ⟨rfl, A, c, l, by simp, Has.mk Off.refl (allLook_cons (by repeat (first | exact Look.here | apply Look.there (hne := rfl) | exact Look.const | apply Look.mix rfl | exact Look.arg0 | apply Look.args | exact Look.func)) (allLook_cons (by repeat (first | exact Look.here | apply Look.there (hne := rfl) | exact Look.const | apply Look.mix rfl | exact Look.arg0 | apply Look.args | exact Look.func)) allLook_nil)), rfl⟩ ?_
    rintro ⟨xs, ys⟩ _ _ ⟨hxy, A2, c2, q, hq, ⟨u2, rfl⟩, rfl⟩; dsimp only [setL] at hxy hq ⊢
    rcases ys with _ | ⟨o, ys⟩
    · -- case 0
      rw [show headA [] none = none from rfl]
      refine JC.seq ?_
      refine JC.rs ?_
      refine Seq.p rfl Ev.move ?_
      refine Seq.p rfl (Ev.neNilP und.p_treebook_order) ?_
      refine Seq.nil ?_
      first | refine JC.c (ht := fun c26 => ?_) (hf := fun c26 => ?_) | refine JC.cb (ht := fun c26 => ?_) (hf := fun c26 => ?_)
      · -- then_t26
        exact absurd c26 (by simp)
      · -- else_t26
        have hqe : q = (M.take (i + 1)).flatMap LevA.rs := by rw [hq, ← hpi]; congr 1; rw [List.append_nil] at hxy; rw [hxy]; rfl
        refine JC.exit ?_ -- 2
        refine JC.reg ?_
        refine Seq.p rfl (by first | exact Ev.inc | exact Ev.add) ?_
        refine Seq.p rfl Ev.move ?_
        refine Seq.nil ?_
        exact ⟨i + 1, _, Part.refl _, ⟨by omega, A2, c2, q, hqe, Has.mk (by repeat (first | refine Off.upd ?_ rfl | exact Off.mix | refine Off.mix2 ?_ rfl | exact Off.refl)) (allLook_cons (by repeat (first | exact Look.here | apply Look.there (hne := rfl) | exact Look.const | apply Look.mix rfl | exact Look.arg0 | apply Look.args | exact Look.func)) (allLook_cons (by repeat (first | exact Look.here | apply Look.there (hne := rfl) | exact Look.const | apply Look.mix rfl | exact Look.arg0 | apply Look.args | exact Look.func)) allLook_nil)), rfl⟩, by omega⟩
    · -- case 1
      rw [show headA (o :: ys) none = some ⟨o.a, 0, none⟩ from rfl]
      have hlc : ∀ {w0 w : World} {Cs F : List Chunk}, Upd w0 w Cs F → Part [levsC 2 L] F → Own w [levelC lv.a 2 (xs ++ o :: ys)] := fun {w0 w Cs F} hu hp => by
        have h0 := hp.own hu.own
        rw [hLL] at h0
        have h := levs_level h0
        rw [← hxy] at h
        exact h
      have hqb : q.length ≤ 1000000 := by
        have h := hbd (i + 1)
        rw [← hpi, List.length_append] at h
        have h2 : lv.rs.length = lv.os.length := by simp [LevA.rs]
        have h3 := congrArg List.length hxy
        rw [List.length_append] at h3
        rw [hq, List.length_append, List.length_map]
        omega
      refine JC.seq ?_
      refine JC.rs ?_
      refine Seq.p rfl Ev.move ?_
      refine Seq.p rfl (Ev.neNilP und.p_treebook_order) ?_
      refine Seq.nil ?_
      first | refine JC.c (ht := fun c26 => ?_) (hf := fun c26 => ?_) | refine JC.cb (ht := fun c26 => ?_) (hf := fun c26 => ?_)
      · -- then_t26
        refine JC.skip ?_
        refine JC.seq ?_
        refine JC.blk ?_
        refine JC.reg ?_
        refine Seq.p rfl Ev.move ?_
        refine Seq.p rfl Ev.move ?_
        refine Seq.p rfl Ev.nilP ?_
        refine Seq.p rfl (Ev.faB fd.treebook_order_0 (bk := o.a) (o := 0)) ?_
        refine Seq.p rfl (Ev.ldA ag.api_Resting (order_cells (xs := xs) (ys := ys) (o := o) (fun w hu => hlc hu (by repeat (first | exact Part.nil _ | refine Part.at (by repeat (first | exact At.z | apply At.s)) ?_))))) ?_
        refine Seq.buildSlN [_, _, _, _, _, _, _] (hsl := sl.sl_api_Resting) (hz := z.api_Resting) (k := ?_); intro b36
        refine Seq.append (j := 1) (hsl := sl.sl_api_Resting) (he := el.api_Resting) (hsrc := fun w' hw => Src.box (news := o.r.enc) sl.sl_api_Resting (by repeat (first | exact At.z | apply At.s)) hw rfl (fun q u hu => hu)) (k := ?_); intro A37 c37
        rw [show q.length + 1 = (q ++ [o.r]).length by simp, show q.flatMap Rst.enc ++ o.r.enc = (q ++ [o.r]).flatMap Rst.enc by simp [List.flatMap_append]]
        refine Seq.p rfl Ev.assign ?_
        refine Seq.nil ?_
        refine JC.reg ?_
        refine Seq.p rfl Ev.move ?_
        refine Seq.p rfl Ev.nilP ?_
        refine Seq.p rfl (Ev.faB fd.treebook_order_2 (bk := o.a) (o := 0)) ?_
        refine Seq.p rfl (Ev.ldS (v := .pointer (headA ys none)) sc.p_treebook_order (fun w hw => Cells.cell (w0 := w) (Cs := []) (H := []) (order_cell (xs := xs) (ys := ys) (o := o) (hlc hw (by repeat (first | exact Part.nil _ | refine Part.at (by repeat (first | exact At.z | apply At.s)) ?_))) rfl) w (Upd.refl0 w))) ?_
        refine Seq.p rfl Ev.assign ?_
        refine Seq.nil ?_
        exact ⟨(xs ++ [o], ys), _, (show Part [bookC bk cap meet qa t.adr mb high seq, treeC nodeT t, levsC 2 L, .own lpT 1 (.slice Al M.length cl) M.length (M.flatMap levE), rstL (.slice A37 (q ++ [o.r]).length c37) (q ++ [o.r])] _ from (by repeat (first | exact Part.nil _ | refine Part.at (by repeat (first | exact At.z | apply At.s)) ?_))), ⟨by rw [← hxy]; simp, A37, c37, q ++ [o.r], by rw [hq]; simp, Has.mk (by repeat (first | refine Off.upd ?_ rfl | exact Off.mix | refine Off.mix2 ?_ rfl | exact Off.refl)) (allLook_cons (by repeat (first | exact Look.here | apply Look.there (hne := rfl) | exact Look.const | apply Look.mix rfl | exact Look.arg0 | apply Look.args | exact Look.func)) (allLook_cons (by repeat (first | exact Look.here | apply Look.there (hne := rfl) | exact Look.const | apply Look.mix rfl | exact Look.arg0 | apply Look.args | exact Look.func)) allLook_nil)), rfl⟩, by simp⟩
      · -- else_t26
        exact absurd c26 (by simp)
  · -- else_t18
    have hie : i = M.length := by omega
    have hle : l = absS 2 L := by rw [hl, hab, hie, List.take_length]
    refine JC.exit ?_ -- 0
    refine JC.rs ?_
    refine Seq.p rfl Ev.move ?_
    refine Seq.p rfl Ev.assign ?_
    refine Seq.nil ?_
    refine JC.ret ?_
    show retQ _ _ _ _ _ _ _ _
    refine ret1 (H' := [bookC bk cap meet qa t.adr mb high seq, treeC nodeT t, levsC 2 L, rstL (.slice A l.length c) l]) (hp := (by repeat (first | exact Part.nil _ | refine Part.at (by repeat (first | exact At.z | apply At.s)) ?_))) (hpost := ?_)
    rw [← hle]; exact ⟨A, c, rfl, rfl⟩
end Go.Rx
/- The book over trees: how far a level can be traded. -/
namespace Go.Rx
open Go Go.RowKit
set_option linter.unusedVariables false
set_option linter.unusedSimpArgs false
def ownM (meet : Int) (mem : Nat) (r : Rst) : Prop := meet ≠ 0 ∧ r.member ≠ 0 ∧ r.member = mem
instance (meet : Int) (mem : Nat) (r : Rst) : Decidable (ownM meet mem r) := inferInstanceAs (Decidable (_ ∧ _ ∧ _))
def reachF (meet : Int) (mem : Nat) : Nat → Nat → List Rst → Nat × Bool
  | all, shown, [] => (all, false)
  | all, shown, r :: rs => if ownM meet mem r then (if meet ≠ 2 then (shown, true) else reachF meet mem all shown rs) else reachF meet mem (all + (r.vis + r.hid)) (shown + r.vis) rs
def sumR (l : List Rst) : Nat := (l.map fun r => r.vis + r.hid).sum
theorem sumR_cons (r : Rst) (l : List Rst) : sumR (r :: l) = r.vis + r.hid + sumR l := by simp [sumR]
def rsO (os : List OrdA) : List Rst := os.map fun o => o.r
end Go.Rx
/- The book over trees: whether what comes would trade whole. -/
namespace Go.Rx
open Go Go.RowKit
set_option linter.unusedVariables false
set_option linter.unusedSimpArgs false
def wholeM (meet : Int) (c : Cmd) : Nat → List LevA → Bool
  | _, [] => false
  | need, l :: M => if meetsC c l.price = false then false else if need ≤ (reachF meet c.member 0 0 l.rs).1 then true else if (reachF meet c.member 0 0 l.rs).2 = true then false else wholeM meet c (need - (reachF meet c.member 0 0 l.rs).1) M
end Go.Rx
/- The book over trees: that what comes would trade whole is told alike by levels and by the document's trades (plain). -/
namespace Go.Rx
open Go Go.RowKit
set_option linter.unusedVariables false
set_option linter.unusedSimpArgs false
abbrev PrL := Int × List Rst
def flatQ (M : List PrL) : List Rst := M.flatMap Prod.snd
def wholeQ (meet : Int) (mem : Nat) (mt : Int → Bool) : Nat → List PrL → Bool
  | _, [] => false
  | need, (p, Q) :: M => if mt p = false then false else if need ≤ (reachF meet mem 0 0 Q).1 then true else if (reachF meet mem 0 0 Q).2 = true then false else wholeQ meet mem mt (need - (reachF meet mem 0 0 Q).1) M
def mtF (o : Com) (p : Int) : Bool := decide (o.kind = 2 ∨ p = o.price ∨ o.side = 1 ∧ p < o.price ∨ o.side ≠ 1 ∧ o.price < p)
end Go.Rx
/- The book over trees: whether what comes trades whole is the document's (plain). -/
namespace Go.Rx
open Go Go.RowKit
set_option linter.unusedVariables false
set_option linter.unusedSimpArgs false
def prL (M : List LevA) : List PrL := M.map fun l => (l.price, l.rs)
def sameC (c : Cmd) (o : Com) : Prop := c.type = o.kind ∧ c.side = o.side ∧ c.price = o.price ∧ c.member = o.member ∧ c.id = o.id ∧ c.peak = o.peak
theorem sideM_sort {s : Int} {L : List LevA} (h : sortL L) (hs : s = 1 ∨ s = 2) : ((sideM s L).map LevA.price).Pairwise fun a b => betterF s a b = true := by
  unfold sideM
  rcases hs with rfl | rfl
  · rw [if_pos rfl]
    refine List.pairwise_map.2 (List.pairwise_reverse.2 (h.imp fun {a b} hab => ?_))
    unfold betterF
    rw [if_pos rfl]
    simpa using hab
  · rw [if_neg (by decide)]
    refine List.pairwise_map.2 (h.imp fun {a b} hab => ?_)
    unfold betterF
    rw [if_neg (by decide)]
    simpa using hab
end Go.Rx
/- The book over trees: a whole book stays one, whatever is done (plain). -/
namespace Go.Rx
open Go Go.RowKit
set_option linter.unusedVariables false
set_option linter.unusedSimpArgs false
theorem ent_fst (l : List OrdA) : (l.map OrdA.ent).map Prod.fst = (l.map fun o => o.r.id).map fun n : Nat => (n : Int) := by
  rw [List.map_map, List.map_map]; rfl
theorem nodup_cast {l : List Nat} : (l.map fun n : Nat => (n : Int)).Nodup ↔ l.Nodup := by
  constructor
  · intro h
    exact (List.pairwise_map.1 h).imp fun hab e => hab (by rw [e])
  · intro h
    exact List.pairwise_map.2 (h.imp fun hab e => hab (Int.ofNat.inj e))
theorem abs_ids (s : Int) (L : List LevA) : ((absS s L).map fun r => r.id).Perm ((ordsL L).map fun o => o.r.id) := by
  have h := (abs_perm s L).map fun r => r.id
  rwa [List.map_map] at h
theorem TOk.put {s : TS} {b : Bk} (h : TOk s b) {q : Int} (hq : q = 1 ∨ q = 2) {t' : Tr} {L' : List LevA} {ids' : List (Int × Value)} {seq' : Nat} (h1 : tieL t' L') (h2 : t'.ok) (h3 : sortL L') (h4 : wfL L')
    (hent : ids'.Perm ((ordsL L' ++ ordsL (s.lv (3 - q))).map OrdA.ent)) (hn : (ids'.map Prod.fst).Nodup) : TOk (s.put q t' L' ids') (withF { b with seq := seq' } q (absS q L')) := by
  have hn2 : ((ordsL L' ++ ordsL (s.lv (3 - q))).map fun o => o.r.id).Nodup := by
    have := (hent.map Prod.fst).nodup_iff.1 hn
    rw [ent_fst] at this
    exact nodup_cast.1 this
  rcases hq with rfl | rfl
  · refine ⟨⟨h1, h2, h3, h4, rfl⟩, h.two, hent, ?_⟩
    show ((absS 1 L' ++ b.sells).map fun r => r.id).Nodup
    rw [← h.two.abs, List.map_append]
    have hp := (abs_ids 1 L').append (abs_ids 2 s.S)
    rw [List.map_append] at hn2
    exact hp.nodup_iff.2 hn2
  · refine ⟨h.one, ⟨h1, h2, h3, h4, rfl⟩, hent.trans (List.perm_append_comm.map _), ?_⟩
    show ((b.buys ++ absS 2 L').map fun r => r.id).Nodup
    rw [← h.one.abs, List.map_append]
    have hp := (abs_ids 1 s.B).append (abs_ids 2 L')
    have hp2 := hp.trans List.perm_append_comm
    rw [List.map_append] at hn2
    exact hp2.nodup_iff.2 hn2
theorem TOk.ents {s : TS} {b : Bk} (h : TOk s b) {q : Int} (hq : q = 1 ∨ q = 2) : s.ids.Perm ((ordsL (s.lv q) ++ ordsL (s.lv (3 - q))).map OrdA.ent) := by
  rcases hq with rfl | rfl
  · exact h.map
  · exact h.map.trans (List.perm_append_comm.map _)
theorem ords_swap (L1 L2 : List LevA) (l : LevA) (R : List OrdA) : (ordsL (L1 ++ l :: L2) ++ R).Perm (l.os ++ (ordsL L1 ++ (ordsL L2 ++ R))) := by
  rw [ords_mid]
  simp only [List.append_assoc]
  exact List.perm_append_comm_assoc ..
theorem gone_ords {L' L1 L2 : List LevA} {l : LevA} {os R : List OrdA} (h : GoneL L' L1 l L2 os) : (ordsL L' ++ R).Perm (os ++ (ordsL L1 ++ (ordsL L2 ++ R))) := by
  rcases h with ⟨rfl, rfl⟩ | ⟨_, rfl⟩
  · unfold ordsL
    simp
  · exact ords_swap L1 L2 ⟨l.a, l.price, os⟩ R
theorem TOk.gone {s : TS} {b : Bk} (h : TOk s b) {q : Int} (hq : q = 1 ∨ q = 2) {L1 L2 L' : List LevA} {l : LevA} {xs ys : List OrdA} {o : OrdA} {t' : Tr} {seq' : Nat} (hL : s.lv q = L1 ++ l :: L2) (hos : l.os = xs ++ o :: ys) (hg : GoneL L' L1 l L2 (xs ++ ys)) (h1 : tieL t' L') (h2 : t'.ok) :
    TOk (s.put q t' L' (adel s.ids (o.r.id : Int))) (withF { b with seq := seq' } q (absS q L')) ∧ withoutF (sideF b q) o.r.id = absS q L' := by
  have hsd := h.side hq
  have hw := hsd.wf
  have hs := hsd.sort
  rw [hL] at hw hs
  obtain ⟨g1, g2, g3, g4⟩ := gone_abs (s := q) hg hos hw hs
  have he := h.ents hq
  rw [hL] at he
  have he2 : s.ids.Perm (xs.map OrdA.ent ++ ((o.r.id : Int), Value.pointer o.adr) :: (ys.map OrdA.ent ++ (ordsL L1 ++ (ordsL L2 ++ ordsL (s.lv (3 - q)))).map OrdA.ent)) := by
    refine he.trans (((ords_swap L1 L2 l _).map OrdA.ent).trans ?_)
    rw [hos]
    simp only [List.map_append, List.map_cons, List.append_assoc, List.cons_append]
    exact List.Perm.refl _
  have hd := adel_perm h.ids_once he2
  have hent : (adel s.ids (o.r.id : Int)).Perm ((ordsL L' ++ ordsL (s.lv (3 - q))).map OrdA.ent) := by
    refine hd.trans (((gone_ords hg).map OrdA.ent).trans ?_).symm
    simp only [List.map_append, List.append_assoc]
    exact List.Perm.refl _
  have hn : ((adel s.ids (o.r.id : Int)).map Prod.fst).Nodup := by
    rw [adel_filter _ _ h.ids_once]
    exact h.ids_once.sublist ((List.filter_sublist).map _)
  refine ⟨h.put hq h1 h2 g4 g3 hent hn, ?_⟩
  have hsb : sideF b q = absS q (L1 ++ l :: L2) := by rw [← hsd.abs, hL]
  rw [hsb, g1, g2]
  refine without_mid fun x hx => ?_
  have hnd : ((sideF b q).map fun r => r.id).Nodup := by
    have := h.once
    rw [List.map_append] at this
    rcases hq with rfl | rfl
    · exact this.sublist (List.sublist_append_left _ _)
    · exact this.sublist (List.sublist_append_right _ _)
  rw [hsb, g1] at hnd
  intro e
  have hp : ((absS q (betL q L1 L2) ++ xs.map (fun o => o.r) ++ o.r :: (ys.map (fun o => o.r) ++ absS q (worL q L1 L2))).map fun r => r.id).Perm (o.r.id :: (absS q (betL q L1 L2) ++ xs.map (fun o => o.r) ++ (ys.map (fun o => o.r) ++ absS q (worL q L1 L2))).map fun r => r.id) :=
    (List.perm_middle (a := o.r)).map _
  have := (List.nodup_cons.1 (hp.nodup_iff.1 hnd)).1
  exact this (List.mem_map.2 ⟨x, hx, e⟩)
theorem TOk.rest {s : TS} {b : Bk} (h : TOk s b) {q : Int} (hq : q = 1 ∨ q = 2) {L' : List LevA} {o : OrdA} {t' : Tr} (hr : RestL (s.lv q) L' o) (h1 : tieL t' L') (h2 : t'.ok) (hf : ∀ r ∈ b.buys ++ b.sells, r.id ≠ o.r.id) :
    TOk (s.put q t' L' (aput s.ids o.ent.1 o.ent.2)) (withF b q (absS q L')) ∧ absS q L' = enqF q (sideF b q) o.r := by
  have hsd := h.side hq
  obtain ⟨r1, r2⟩ := rest_abs (s := q) hr hsd.sort hsd.wf
  rw [hsd.abs] at r1
  have he := h.ents hq
  have hfr : (o.r.id : Int) ∉ s.ids.map Prod.fst := by
    intro hm
    have h3 := (he.map Prod.fst).mem_iff.1 hm
    rw [ent_fst] at h3
    obtain ⟨n, hn, e⟩ := List.mem_map.1 h3
    obtain ⟨x, hx, e2⟩ := List.mem_map.1 hn
    have e3 : x.r.id = o.r.id := by omega
    have hx2 : x.r ∈ b.buys ++ b.sells := by
      rw [← h.one.abs, ← h.two.abs]
      have hp1 := (abs_perm 1 s.B).mem_iff (a := x.r)
      have hp2 := (abs_perm 2 s.S).mem_iff (a := x.r)
      rcases hq with rfl | rfl
      · rcases List.mem_append.1 hx with hx | hx
        · exact List.mem_append_left _ (hp1.2 (List.mem_map_of_mem hx))
        · exact List.mem_append_right _ (hp2.2 (List.mem_map_of_mem hx))
      · rcases List.mem_append.1 hx with hx | hx
        · exact List.mem_append_right _ (hp2.2 (List.mem_map_of_mem hx))
        · exact List.mem_append_left _ (hp1.2 (List.mem_map_of_mem hx))
    exact hf _ hx2 e3
  have hap : aput s.ids o.ent.1 o.ent.2 = s.ids ++ [o.ent] := aput_perm s.ids _ _ hfr
  have hord : (ordsL L' ++ ordsL (s.lv (3 - q))).Perm ((ordsL (s.lv q) ++ ordsL (s.lv (3 - q))) ++ [o]) := by
    rcases hr with ⟨L1, l, L2, e, _, rfl⟩ | ⟨L1, L2, b2, e, _, _, rfl⟩
    · rw [e]
      refine (ords_swap L1 L2 ⟨l.a, l.price, l.os ++ [o]⟩ _).trans (List.Perm.trans ?_ ((ords_swap L1 L2 l _).append_right [o]).symm)
      simp only [List.append_assoc]
      exact List.Perm.append_left _ (List.perm_append_comm.trans (by simp only [List.append_assoc]; exact List.Perm.refl _))
    · rw [e]
      refine (ords_swap L1 L2 ⟨b2, o.r.price, [o]⟩ _).trans ?_
      have : ordsL (L1 ++ L2) = ordsL L1 ++ ordsL L2 := by simp [ordsL]
      rw [this]
      simp only [List.append_assoc]
      exact List.perm_append_comm.trans (by simp only [List.append_assoc]; exact List.Perm.refl _)
  have hent : (aput s.ids o.ent.1 o.ent.2).Perm ((ordsL L' ++ ordsL (s.lv (3 - q))).map OrdA.ent) := by
    rw [hap]
    refine ((he.append_right [o.ent]).trans ?_)
    refine List.Perm.trans ?_ (hord.map OrdA.ent).symm
    simp
  have hn : ((aput s.ids o.ent.1 o.ent.2).map Prod.fst).Nodup := by
    rw [hap, List.map_append]
    refine List.nodup_append.2 ⟨h.ids_once, by simp, fun a ha c hc e => ?_⟩
    rw [List.map_singleton, List.mem_singleton] at hc
    rw [e, hc] at ha
    exact hfr ha
  exact ⟨h.put (seq' := b.seq) hq h1 h2 (restL_sort hr hsd.sort) r2 hent hn, r1⟩
end Go.Rx
/- The book over trees: a trade and a meeting leave a whole book (plain); the best order of a side, whatever it is. -/
namespace Go.Rx
open Go Go.RowKit
set_option linter.unusedVariables false
set_option linter.unusedSimpArgs false
theorem TOk.swap {s : TS} {b : Bk} (h : TOk s b) {q : Int} (hq : q = 1 ∨ q = 2) {L1 L2 : List LevA} {l : LevA} {os' : List OrdA} {t' : Tr} {seq' : Nat} (hL : s.lv q = L1 ++ l :: L2) (hp : (os'.map OrdA.ent).Perm (l.os.map OrdA.ent)) (h1 : tieL t' (L1 ++ ⟨l.a, l.price, os'⟩ :: L2)) (h2 : t'.ok) (h3 : sortL (L1 ++ ⟨l.a, l.price, os'⟩ :: L2)) (h4 : wfL (L1 ++ ⟨l.a, l.price, os'⟩ :: L2)) :
    TOk (s.put q t' (L1 ++ ⟨l.a, l.price, os'⟩ :: L2) s.ids) (withF { b with seq := seq' } q (absS q (L1 ++ ⟨l.a, l.price, os'⟩ :: L2))) := by
  refine h.put hq h1 h2 h3 h4 ?_ h.ids_once
  have he := h.ents hq
  rw [hL] at he
  refine he.trans (((ords_swap L1 L2 l _).map OrdA.ent).trans (List.Perm.trans ?_ ((ords_swap L1 L2 ⟨l.a, l.price, os'⟩ _).map OrdA.ent).symm))
  show (List.map OrdA.ent (l.os ++ _)).Perm (List.map OrdA.ent (os' ++ _))
  rw [List.map_append, List.map_append (l₁ := os')]
  exact hp.symm.append_right _
theorem TOk.once_side {s : TS} {b : Bk} (h : TOk s b) {q : Int} (hq : q = 1 ∨ q = 2) : ((sideF b q).map fun r => r.id).Nodup := by
  have := h.once
  rw [List.map_append] at this
  rcases hq with rfl | rfl
  · exact this.sublist (List.sublist_append_left _ _)
  · exact this.sublist (List.sublist_append_right _ _)
theorem TOk.rest_ids {s : TS} {b : Bk} (h : TOk s b) {q : Int} (hq : q = 1 ∨ q = 2) {L1 L2 : List LevA} {l : LevA} {o : OrdA} {ys : List OrdA} (hL : s.lv q = L1 ++ l :: L2) (hbe : betL q L1 L2 = []) (hos : l.os = o :: ys) : ∀ x ∈ ys.map (fun o => o.r) ++ absS q (worL q L1 L2), x.id ≠ o.r.id := by
  have hn := h.once_side hq
  rw [← (h.side hq).abs, hL, abs_first hbe hos, List.map_cons, List.nodup_cons] at hn
  intro x hx e
  exact hn.1 (List.mem_map.2 ⟨x, hx, e⟩)
theorem TOk.trade {s : TS} {t : Tld} (h : TOk s t.b) {q : Int} (hq : q = 1 ∨ q = 2) {L1 L2 L' : List LevA} {l : LevA} {o : OrdA} {ys : List OrdA} {com : Com} {c : Cmd} {n seq' : Nat} {ids' : List (Int × Value)} {evs' : List Evt} {t' : Tr}
    (hL : s.lv q = L1 ++ l :: L2) (hbe : betL q L1 L2 = []) (hos : l.os = o :: ys) (hn : n = if o.r.vis < com.left then o.r.vis else com.left) (hci : c.id = com.id) (hcs : c.side = com.side) (htr : TradeL L' L1 l L2 o ys c com.left n s.ids ids' t.l evs' t.b.seq seq') (h1 : tieL t' L') (h2 : t'.ok) :
    TOk (s.put q t' L' ids') (withF { t.b with seq := seq' } q (absS q L')) ∧ tradeF t com q (sideF t.b q) o.r = (⟨withF { t.b with seq := seq' } q (absS q L'), evs'⟩, { com with left := com.left - n }) := by
  have hsd := h.side hq
  have hw := hsd.wf
  have hs := hsd.sort
  rw [hL] at hw hs
  have hu := h.rest_ids hq hL hbe hos
  obtain ⟨e1, e2, e3⟩ := trade_abs (t := t) (com := com) (s := q) hq hbe hos hw hs hu hn hci hcs htr
  rw [← hL, hsd.abs] at e1
  refine ⟨?_, e1⟩
  rcases htr with ⟨a1, rfl, rfl, rfl, rfl⟩ | ⟨a1, a2, hg, rfl, rfl, rfl⟩ | ⟨a1, a2, ⟨v2, hv2, rfl, rfl⟩, rfl, rfl⟩
  · exact h.swap hq hL (by rw [hos]; exact List.Perm.refl _) h1 h2 e3 e2
  · exact (h.gone hq (xs := []) hL hos hg h1 h2).1
  · exact h.swap hq hL (by rw [hos, List.map_append]; exact List.perm_append_comm) h1 h2 e3 e2
theorem TOk.meet {s : TS} {t : Tld} (h : TOk s t.b) {q : Int} (hq : q = 1 ∨ q = 2) {L1 L2 L' : List LevA} {l : LevA} {o : OrdA} {ys : List OrdA} {com : Com} {c : Cmd} {left' seq' : Nat} {ids' : List (Int × Value)} {evs' : List Evt} {t' : Tr}
    (hL : s.lv q = L1 ++ l :: L2) (hbe : betL q L1 L2 = []) (hos : l.os = o :: ys) (hci : c.id = com.id) (hmt : MeetL t.b.meet L' L1 l L2 o ys c com.left left' s.ids ids' t.l evs' t.b.seq seq') (h1 : tieL t' L') (h2 : t'.ok) :
    TOk (s.put q t' L' ids') (withF { t.b with seq := seq' } q (absS q L')) ∧ meetF t com q (sideF t.b q) o.r = (⟨withF { t.b with seq := seq' } q (absS q L'), evs'⟩, { com with left := left' }) := by
  have hsd := h.side hq
  have hw := hsd.wf
  have hs := hsd.sort
  have hsb := hsd.abs
  rw [hL] at hw hs hsb
  have hu := h.rest_ids hq hL hbe hos
  obtain ⟨e1, e2, e3⟩ := meet_abs (t := t) (com := com) (s := q) hq hbe hos hw hs hu hsb.symm hci hmt
  rw [hsb] at e1
  refine ⟨?_, e1⟩
  rcases hmt with ⟨a1, rfl, rfl, rfl, rfl, rfl⟩ | ⟨a1, hg, rfl, rfl, rfl, rfl⟩ | ⟨a1, hg, rfl, rfl, rfl, rfl⟩
  · exact h.swap hq hL (List.Perm.refl _) h1 h2 e3 e2
  · exact (h.gone hq (xs := []) hL hos hg h1 h2).1
  · exact (h.gone hq (xs := []) hL hos hg h1 h2).1
def bestA (s : Int) (L : List LevA) : Option Addr := match sideM s L with
  | [] => none
  | l :: _ => headA l.os none
theorem best_cases (s : Int) (L : List LevA) : L = [] ∨ ∃ L1 l L2, L = L1 ++ l :: L2 ∧ betL s L1 L2 = [] := by
  by_cases h : s = 1
  · rcases List.eq_nil_or_concat L with rfl | ⟨M, l, rfl⟩
    · exact .inl rfl
    · exact .inr ⟨M, l, [], by simp, by unfold betL; rw [if_pos h]⟩
  · cases L with
    | nil => exact .inl rfl
    | cons l M => exact .inr ⟨[], l, M, rfl, by unfold betL; rw [if_neg h]⟩
theorem bestA_nil (s : Int) : bestA s [] = none := by unfold bestA sideM; simp
theorem bestA_mid {s : Int} {L1 L2 : List LevA} {l : LevA} (h : betL s L1 L2 = []) : bestA s (L1 ++ l :: L2) = headA l.os none := by
  unfold bestA sideM
  unfold betL at h
  by_cases hs : s = 1
  · rw [if_pos hs] at h ⊢
    subst h
    simp
  · rw [if_neg hs] at h ⊢
    subst h
    simp
theorem Spec.pure {P : Program} {f : FuncId} {args : Array Value} {w : World} {G : List Chunk} {v : Value} (hO : Own w G) (hx : ∀ c ∈ G, c.exact) (h : Spec P f args w G (fun u H' => u = v ∧ H' = G)) : Spec P f args w [] (fun u _ => u = v) := by
  refine ⟨h.1, h.2.mono ?_⟩
  rintro e w' ⟨u, H', rfl, hu, rfl, rfl⟩
  have hg := hu.grownSame hO fun c hc => ⟨hx c hc, hc⟩
  exact ⟨u, [], rfl, ⟨hu.os, hu.tape, hu.output, hu.size, fun i hi _ => hg.block i hi (by simp), Own.nil _, by simp⟩, rfl⟩
end Go.Rx
/- The document's book: one meeting, at the buys' side. -/
namespace Go.Rx
open Go Go.RowKit
set_option linter.unusedVariables false
set_option linter.unusedSimpArgs false
end Go.Rx
/- The document's book: what comes trades, as far as it goes. -/
namespace Go.Rx
open Go Go.RowKit
set_option linter.unusedVariables false
set_option linter.unusedSimpArgs false
end Go.Rx
/- The document's book: whether what comes trades whole; what comes. -/
namespace Go.Rx
open Go Go.RowKit
set_option linter.unusedVariables false
set_option linter.unusedSimpArgs false
end Go.Rx
/- The document's book: what a command is refused for. -/
namespace Go.Rx
open Go Go.RowKit
set_option linter.unusedVariables false
set_option linter.unusedSimpArgs false
end Go.Rx
/- The document's book: an order that was taken. -/
namespace Go.Rx
open Go Go.RowKit
set_option linter.unusedVariables false
set_option linter.unusedSimpArgs false
def TldPost1 (x : Tld) (u : Value) (H' : List Chunk) : Prop := ∃ A1 c1 A2 c2 A3 c3, u = .agg (x.cells (.slice A1 x.b.buys.length c1) (.slice A2 x.b.sells.length c2) (.slice A3 x.l.length c3)).toArray ∧
  H' = [rstL (.slice A1 x.b.buys.length c1) x.b.buys, rstL (.slice A2 x.b.sells.length c2) x.b.sells, evtL (.slice A3 x.l.length c3) x.l]
end Go.Rx
/- The book over trees: bounds; numbers; an order put to rest, wherever it belongs. -/
namespace Go.Rx
open Go Go.RowKit
set_option linter.unusedVariables false
set_option linter.unusedSimpArgs false
theorem shown_le : ∀ (os : List OrdA), (∀ o ∈ os, o.r.vis ≤ 4294967295) → shownF os ≤ 4294967295 * os.length
  | [], _ => Nat.le_refl _
  | o :: os, h => by
    have h1 := h o List.mem_cons_self
    have h2 := shown_le os fun x hx => h x (List.mem_cons_of_mem _ hx)
    rw [shown_cons, List.length_cons]
    omega
theorem sumR_le : ∀ (l : List Rst), (∀ r ∈ l, r.live) → sumR l ≤ 4294967295 * l.length
  | [], _ => Nat.le_refl _
  | r :: l, h => by
    have h1 := (h r List.mem_cons_self).2.1
    have h2 := sumR_le l fun x hx => h x (List.mem_cons_of_mem _ hx)
    rw [sumR_cons, List.length_cons]
    omega
theorem ords_len (L : List LevA) (h : ∀ l ∈ L, l.os ≠ []) : L.length ≤ (ordsL L).length := by
  induction L with
  | nil => exact Nat.le_refl _
  | cons l L ih =>
    have h1 := ih fun x hx => h x (List.mem_cons_of_mem _ hx)
    have h2 := List.length_pos_iff.2 (h l List.mem_cons_self)
    unfold ordsL at h1 ⊢
    rw [List.flatMap_cons, List.length_append, List.length_cons]
    omega
theorem SideOk.small {q : Int} {t : Tr} {L : List LevA} {B : List Rst} (h : SideOk q t L B) (hlv : ∀ r ∈ B, r.live) (hn : B.length ≤ 4096) :
    t.size ≤ 4096 ∧ (∀ l ∈ L, l.os.length ≤ 4096 ∧ shownF l.os ≤ 4294967295 * 4096 ∧ sumR l.rs < 18446744073709551616 ∧ ∀ x ∈ l.os, x.r.live) := by
  have hp := abs_perm q L
  have hpl := hp.length_eq
  rw [h.abs, List.length_map] at hpl
  have hol := ords_len L fun l hl => (h.wf l hl).1
  refine ⟨by rw [tie_size h.tie]; omega, fun l hl => ?_⟩
  have hlen : l.os.length ≤ (ordsL L).length := by
    obtain ⟨L1, L2, rfl⟩ := List.append_of_mem hl
    rw [ords_mid, List.length_append, List.length_append]
    omega
  have hlx : ∀ x ∈ l.os, x.r.live := fun x hx => by
    refine hlv _ ?_
    rw [← h.abs]
    refine hp.mem_iff.2 (List.mem_map_of_mem ?_)
    exact List.mem_flatMap.2 ⟨l, hl, hx⟩
  have h1 := shown_le l.os fun x hx => by have h := (hlx x hx).2.1; omega
  have h2 := sumR_le l.rs fun r hr => by
    obtain ⟨x, hx, rfl⟩ := List.mem_map.1 hr
    exact hlx x hx
  have h3 : l.rs.length = l.os.length := by simp [LevA.rs]
  refine ⟨by omega, ?_, ?_, hlx⟩
  · exact Nat.le_trans h1 (Nat.mul_le_mul_left _ (by omega))
  · have := Nat.mul_le_mul_left 4294967295 (show l.rs.length ≤ 4096 by omega)
    omega
end Go.Rx
/- The book over trees: what comes trades, and rests. (printed by gen_ox6.py) -/
namespace Go.Rx
open Go Go.RowKit
set_option linter.unusedVariables false
set_option linter.unusedSimpArgs false
theorem TOk.seq {s : TS} {b : Bk} (h : TOk s b) (n : Nat) : TOk s { b with seq := n } := ⟨h.one, h.two, h.map, h.once⟩
end Go.Rx
/- The document's book: what a command is refused for by a book. -/
namespace Go.Rx
open Go Go.RowKit
set_option linter.unusedVariables false
set_option linter.unusedSimpArgs false
end Go.Rx
/- The rules' check of a command. -/
namespace Go.Rx
open Go Go.RowKit
set_option linter.unusedVariables false
set_option linter.unusedSimpArgs false
end Go.Rx
/- The book over trees: an order found; the best order of either side. -/
namespace Go.Rx
open Go Go.RowKit
set_option linter.unusedVariables false
set_option linter.unusedSimpArgs false
structure FoundT (s : TS) (b : Bk) (id : Nat) (q : Int) (L1 : List LevA) (l : LevA) (L2 : List LevA) (xs : List OrdA) (o : OrdA) (ys : List OrdA) : Prop where
  hq : q = 1 ∨ q = 2
  lv : s.lv q = L1 ++ l :: L2
  hos : l.os = xs ++ o :: ys
  hid : o.r.id = id
  get : aget s.ids (id : Int) = some (.pointer (some ⟨o.a, 0, none⟩))
  find : findF b id = (o.r, q, true)
theorem TOk.get {s : TS} {b : Bk} (h : TOk s b) {q : Int} (hq : q = 1 ∨ q = 2) {r : Rst} (hr : r ∈ sideF b q) : ∃ L1 l L2 xs o ys, s.lv q = L1 ++ l :: L2 ∧ l.os = xs ++ o :: ys ∧ o.r = r ∧ aget s.ids (r.id : Int) = some (.pointer (some ⟨o.a, 0, none⟩)) := by
  rw [← (h.side hq).abs] at hr
  obtain ⟨l, hl, o, ho, rfl⟩ := abs_mem hr
  obtain ⟨L1, L2, e1⟩ := List.append_of_mem hl
  obtain ⟨xs, ys, e2⟩ := List.append_of_mem ho
  refine ⟨L1, l, L2, xs, o, ys, e1, e2, rfl, aget_mem h.ids_once ?_⟩
  refine (h.ents hq).mem_iff.2 ?_
  show o.ent ∈ _
  exact List.mem_map_of_mem (List.mem_append_left _ (List.mem_flatMap.2 ⟨l, hl, ho⟩))
theorem TOk.find {s : TS} {b : Bk} (h : TOk s b) (id : Nat) : (aget s.ids (id : Int) = none ∧ findF b id = (default, 0, false)) ∨ ∃ q L1 l L2 xs o ys, FoundT s b id q L1 l L2 xs o ys := by
  cases h1 : b.buys.find? fun r => decide (r.id = id) with
  | some r =>
    have hm : r ∈ sideF b 1 := List.mem_of_find?_eq_some h1
    have hi : r.id = id := by simpa using List.find?_some h1
    obtain ⟨L1, l, L2, xs, o, ys, e1, e2, rfl, e4⟩ := h.get (q := 1) (.inl rfl) hm
    exact .inr ⟨1, L1, l, L2, xs, o, ys, .inl rfl, e1, e2, hi, by rw [← hi]; exact e4, by unfold findF; rw [h1]⟩
  | none =>
    cases h2 : b.sells.find? fun r => decide (r.id = id) with
    | some r =>
      have hm : r ∈ sideF b 2 := List.mem_of_find?_eq_some h2
      have hi : r.id = id := by simpa using List.find?_some h2
      obtain ⟨L1, l, L2, xs, o, ys, e1, e2, rfl, e4⟩ := h.get (q := 2) (.inr rfl) hm
      exact .inr ⟨2, L1, l, L2, xs, o, ys, .inr rfl, e1, e2, hi, by rw [← hi]; exact e4, by unfold findF; rw [h1, h2]⟩
    | none =>
      refine .inl ⟨aget_none fun hm => ?_, by unfold findF; rw [h1, h2]⟩
      have h3 := (h.map.map Prod.fst).mem_iff.1 hm
      rw [ent_fst] at h3
      obtain ⟨n, hn, e⟩ := List.mem_map.1 h3
      obtain ⟨x, hx, e2⟩ := List.mem_map.1 hn
      have e3 : x.r.id = id := by omega
      rcases List.mem_append.1 hx with hx | hx
      · have : x.r ∈ b.buys := by rw [← h.one.abs]; exact (abs_perm 1 s.B).mem_iff.2 (List.mem_map_of_mem hx)
        exact absurd e3 (by simpa using List.find?_eq_none.1 h1 _ this)
      · have : x.r ∈ b.sells := by rw [← h.two.abs]; exact (abs_perm 2 s.S).mem_iff.2 (List.mem_map_of_mem hx)
        exact absurd e3 (by simpa using List.find?_eq_none.1 h2 _ this)
abbrev TS.all (s : TS) (bk mb : Nat) (b : Bk) : List Chunk := [bookC bk b.cap b.meet s.t1.adr s.t2.adr mb b.high b.seq, treeC nodeT s.t1, treeC nodeT s.t2, .mq mb (Value.int .u64) s.ids, levsC 1 s.B, levsC 2 s.S]
theorem pcs_levs {w : World} {s : TS} {bk mb : Nat} {b : Bk} (hO : Own w (s.all bk mb b)) {q : Int} (hq : q = 1 ∨ q = 2) : Own w [levsC q (s.lv q)] := by
  rcases hq with rfl | rfl
  · exact Part.own (show Part [levsC 1 s.B] _ from by repeat (first | exact Part.nil _ | refine Part.at (by repeat (first | exact At.z | apply At.s)) ?_)) hO
  · exact Part.own (show Part [levsC 2 s.S] _ from by repeat (first | exact Part.nil _ | refine Part.at (by repeat (first | exact At.z | apply At.s)) ?_)) hO
theorem TOk.best {s : TS} {b : Bk} (hT : TOk s b) {q : Int} (hq : q = 1 ∨ q = 2) : (bestA q (s.lv q) = none ∧ sideF b q = []) ∨ ∃ L1 l L2 o ys R, bestA q (s.lv q) = some ⟨o.a, 0, none⟩ ∧ s.lv q = L1 ++ l :: L2 ∧ l.os = o :: ys ∧ sideF b q = o.r :: R := by
  have hsd := hT.side hq
  rcases best_cases q (s.lv q) with hb | ⟨L1, l, L2, hb, hbe⟩
  · left
    rw [hb]
    refine ⟨bestA_nil q, ?_⟩
    rw [← hsd.abs, hb]
    exact abs_nil _
  · right
    have hmem : l ∈ s.lv q := by rw [hb]; exact List.mem_append_right _ List.mem_cons_self
    obtain ⟨o, ys, hys⟩ := List.exists_cons_of_ne_nil (hsd.wf l hmem).1
    refine ⟨L1, l, L2, o, ys, ys.map (fun o => o.r) ++ absS q (worL q L1 L2), ?_, hb, hys, ?_⟩
    · rw [hb, bestA_mid hbe, hys]; rfl
    · rw [← hsd.abs, hb]; exact abs_first hbe hys
end Go.Rx
/- The book over trees: what a command is refused for. (printed by gen_ox9.py) -/
namespace Go.Rx
open Go Go.RowKit
set_option linter.unusedVariables false
set_option linter.unusedSimpArgs false
end Go.Rx
/- The document's book: what a command does. -/
namespace Go.Rx
open Go Go.RowKit
set_option linter.unusedVariables false
set_option linter.unusedSimpArgs false
def DoPost (x : Tld) (u : Value) (H' : List Chunk) : Prop := ∃ A1 c1 A2 c2 A3 c3, u = .tuple #[.agg (x.b.cells (.slice A1 x.b.buys.length c1) (.slice A2 x.b.sells.length c2)).toArray, .slice A3 x.l.length c3] ∧
  H' = [rstL (.slice A1 x.b.buys.length c1) x.b.buys, rstL (.slice A2 x.b.sells.length c2) x.b.sells, evtL (.slice A3 x.l.length c3) x.l]
end Go.Rx
/- The book over trees: what a command does. (printed by gen_oy1.py) -/
namespace Go.Rx
open Go Go.RowKit
set_option linter.unusedVariables false
set_option linter.unusedSimpArgs false
def TbDone (bk mb : Nat) (x : Tld) (u : Value) (H' : List Chunk) : Prop := ∃ (s' : TS) (A : Option Addr) (ca : Nat), u = .slice A x.l.length ca ∧ TOk s' x.b ∧ H' = [bookC bk x.b.cap x.b.meet s'.t1.adr s'.t2.adr mb x.b.high x.b.seq, treeC nodeT s'.t1, treeC nodeT s'.t2, .mq mb (Value.int .u64) s'.ids, levsC 1 s'.B, levsC 2 s'.S, evtL (.slice A x.l.length ca) x.l]
end Go.Rx
/- The book over trees: a command that takes an order out. (printed by gen_oy1.py) -/
namespace Go.Rx
open Go Go.RowKit
set_option linter.unusedVariables false
set_option linter.unusedSimpArgs false
end Go.Rx
/- The book over trees: what it is asked. (printed by gen_oy3.py) -/
namespace Go.Rx
open Go Go.RowKit
set_option linter.unusedVariables false
set_option linter.unusedSimpArgs false
set_option maxHeartbeats 4000000 in
set_option maxRecDepth 100000 in
theorem tbFindA {w : World} {bk mb id : Nat} {s : TS} {b : Bk} (hga : aget s.ids (id : Int) = none) (hff : findF b id = (default, 0, false)) (hO : Own w (s.all bk mb b)) :
    Spec Go.Proofs.Try.prog 13 #[.pointer (some ⟨bk, 0, none⟩), .int .u64 (id : Int)] w (s.all bk mb b) (fun u H' => u = .tuple #[.agg (findF b id).1.enc.toArray, .int .i64 (findF b id).2.1, .bool (findF b id).2.2] ∧ H' = s.all bk mb b) := by
  rw [hff]
  refine Spec.enter (fn := Go.Proofs.Try.f13) (n := 32) [.pointer (some ⟨bk, 0, none⟩), .int .u64 (id : Int)] Go.Proofs.Try.func13 (by kernel_rfl) rfl Go.Proofs.Try.ntmps13 Go.Proofs.Try.results13 rfl hO ?_
  refine JC.rs ?_
  refine Seq.alloc (cs := [_, _, _, _, _, _, _]) (hz := z.api_Resting) (k := ?_); intro b4
  refine Seq.p rfl Ev.assign ?_
  refine Seq.p rfl Ev.assign ?_
  refine Seq.nil ?_
  refine JC.rs ?_
  refine Seq.p rfl Ev.move ?_
  refine Seq.p rfl Ev.nilP ?_
  refine Seq.p rfl (Ev.faB fd.treebook_Book_2) ?_
  refine Seq.p rfl (Ev.ldB sc.m_uint64_p_treebook_order) ?_
  refine Seq.p rfl Ev.move ?_
  refine Seq.p rfl (Ev.asR (v' := .tuple #[.pointer none, .bool false]) (Ev.qGetOk (k := (id : Int)) mp.m_uint64_p_treebook_order (intKey .u64) z.p_treebook_order) (by rw [hga]; rfl)) ?_
  refine Seq.p rfl Ev.move ?_
  refine Seq.p rfl Ev.extract ?_
  refine Seq.p rfl Ev.extract ?_
  refine Seq.p rfl Ev.assign ?_
  refine Seq.p rfl Ev.assign ?_
  refine Seq.nil ?_
  refine JC.seq ?_
  refine JC.rs ?_
  refine Seq.p rfl Ev.move ?_
  refine Seq.p rfl Ev.not ?_
  refine Seq.nil ?_
  first | refine JC.c (ht := fun c19 => ?_) (hf := fun c19 => ?_) | refine JC.cb (ht := fun c19 => ?_) (hf := fun c19 => ?_)
  · -- then_t19
    skip
    refine JC.rs ?_
    refine Seq.p rfl (Ev.buildN [_, _, _, _, _, _, _] pl.api_Resting z.api_Resting) ?_
    refine Seq.storeN [_, _, _, _, _, _, _] sz.api_Resting (k := ?_)
    refine Seq.p rfl Ev.assign ?_
    refine Seq.p rfl Ev.assign ?_
    refine Seq.nil ?_
    refine JC.ret ?_
    show retQ _ _ _ _ _ _ _ _
    refine retB3 ag.api_Resting (hp := (show Part (s.all bk mb b) _ from (by repeat (first | exact Part.nil _ | refine Part.at (by repeat (first | exact At.z | apply At.s)) ?_)))) (hpost := ?_)
    exact ⟨rfl, rfl⟩
  · -- else_t19
    exact absurd c19 (by simp)
set_option maxHeartbeats 4000000 in
set_option maxRecDepth 100000 in
theorem tbFindB {w : World} {bk mb id : Nat} {s : TS} {b : Bk} {q : Int} {L1 L2 : List LevA} {l : LevA} {xs ys : List OrdA} {o1 : OrdA} (hf : FoundT s b id q L1 l L2 xs o1 ys) (hO : Own w (s.all bk mb b)) :
    Spec Go.Proofs.Try.prog 13 #[.pointer (some ⟨bk, 0, none⟩), .int .u64 (id : Int)] w (s.all bk mb b) (fun u H' => u = .tuple #[.agg (findF b id).1.enc.toArray, .int .i64 (findF b id).2.1, .bool (findF b id).2.2] ∧ H' = s.all bk mb b) := by
  rw [hf.find]
  have hgt := hf.get
  have hoc : ∀ {w0 w : World} {Cs F : List Chunk}, Upd w0 w Cs F → Part (s.all bk mb b) F → Own w [levelC l.a q (xs ++ o1 :: ys)] := fun hu hp => by
    have h1 := pcs_levs (hp.own hu.own) hf.hq
    rw [hf.lv] at h1
    have h2 := levs_level h1
    rw [hf.hos] at h2
    exact h2
  refine Spec.enter (fn := Go.Proofs.Try.f13) (n := 32) [.pointer (some ⟨bk, 0, none⟩), .int .u64 (id : Int)] Go.Proofs.Try.func13 (by kernel_rfl) rfl Go.Proofs.Try.ntmps13 Go.Proofs.Try.results13 rfl hO ?_
  refine JC.rs ?_
  refine Seq.alloc (cs := [_, _, _, _, _, _, _]) (hz := z.api_Resting) (k := ?_); intro b4
  refine Seq.p rfl Ev.assign ?_
  refine Seq.p rfl Ev.assign ?_
  refine Seq.nil ?_
  refine JC.rs ?_
  refine Seq.p rfl Ev.move ?_
  refine Seq.p rfl Ev.nilP ?_
  refine Seq.p rfl (Ev.faB fd.treebook_Book_2) ?_
  refine Seq.p rfl (Ev.ldB sc.m_uint64_p_treebook_order) ?_
  refine Seq.p rfl Ev.move ?_
  refine Seq.p rfl (Ev.asR (v' := .tuple #[.pointer (some ⟨o1.a, 0, none⟩), .bool true]) (Ev.qGetOk (k := (id : Int)) mp.m_uint64_p_treebook_order (intKey .u64) z.p_treebook_order) (by rw [hgt]; rfl)) ?_
  refine Seq.p rfl Ev.move ?_
  refine Seq.p rfl Ev.extract ?_
  refine Seq.p rfl Ev.extract ?_
  refine Seq.p rfl Ev.assign ?_
  refine Seq.p rfl Ev.assign ?_
  refine Seq.nil ?_
  refine JC.seq ?_
  refine JC.rs ?_
  refine Seq.p rfl Ev.move ?_
  refine Seq.p rfl Ev.not ?_
  refine Seq.nil ?_
  first | refine JC.c (ht := fun c19 => ?_) (hf := fun c19 => ?_) | refine JC.cb (ht := fun c19 => ?_) (hf := fun c19 => ?_)
  · -- then_t19
    exact absurd c19 (by simp)
  · -- else_t19
    skip
    refine JC.skip ?_
    refine JC.asP (s.all bk mb b) mixed (by repeat (first | exact Part.nil _ | refine Part.at (by repeat (first | exact At.z | apply At.s)) ?_)) ?_
    refine Any.p 0 rfl (by kernel_rfl) (by kernel_rfl) (by kernel_rfl) rfl Ev.move ?_
    refine Any.p 1 rfl (by kernel_rfl) (by kernel_rfl) (by kernel_rfl) rfl Ev.nilP ?_
    refine Any.p 2 rfl (by kernel_rfl) (by kernel_rfl) (by kernel_rfl) rfl (Ev.faB fd.treebook_order_0 (bk := o1.a) (o := 0)) ?_
    refine Any.p 3 rfl (by kernel_rfl) (by kernel_rfl) (by kernel_rfl) rfl (Ev.ldA ag.api_Resting (order_cells (xs := xs) (ys := ys) (o := o1) (fun w hu => hoc hu (by repeat (first | exact Part.nil _ | refine Part.at (by repeat (first | exact At.z | apply At.s)) ?_))))) ?_
    refine Any.p 4 rfl (by kernel_rfl) (by kernel_rfl) (by kernel_rfl) rfl Ev.move ?_
    refine Any.p 5 rfl (by kernel_rfl) (by kernel_rfl) (by kernel_rfl) rfl Ev.nilP ?_
    refine Any.p 6 rfl (by kernel_rfl) (by kernel_rfl) (by kernel_rfl) rfl (Ev.faB fd.treebook_order_3 (bk := o1.a) (o := 0)) ?_
    refine Any.p 7 rfl (by kernel_rfl) (by kernel_rfl) (by kernel_rfl) rfl (Ev.ldS (v := .pointer (some ⟨l.a, 0, none⟩)) sc.p_treebook_level (fun w hw => Cells.cell (w0 := w) (Cs := []) (H := []) (order_cell (xs := xs) (ys := ys) (o := o1) (hoc hw (by repeat (first | exact Part.nil _ | refine Part.at (by repeat (first | exact At.z | apply At.s)) ?_))) rfl) w (Upd.refl0 w))) ?_
    refine Any.p 8 rfl (by kernel_rfl) (by kernel_rfl) (by kernel_rfl) rfl Ev.nilP ?_
    refine Any.p 9 rfl (by kernel_rfl) (by kernel_rfl) (by kernel_rfl) rfl (Ev.faB fd.treebook_level_0 (bk := l.a) (o := 0)) ?_
    refine Any.p 10 rfl (by kernel_rfl) (by kernel_rfl) (by kernel_rfl) rfl (Ev.ldS (v := .int .i64 q) sc.int (fun w hw => Cells.cell (w0 := w) (Cs := []) (H := []) (level_cell (hoc hw (by repeat (first | exact Part.nil _ | refine Part.at (by repeat (first | exact At.z | apply At.s)) ?_))) rfl) w (Upd.refl0 w))) ?_
    refine Any.one 11 rfl (by kernel_rfl) ?_
    refine Seq.storeN [_, _, _, _, _, _, _] sz.api_Resting (k := ?_)
    refine Seq.nil ⟨(by repeat (first | exact Part.nil _ | refine Part.at (by repeat (first | exact At.z | apply At.s)) ?_)), ?_⟩
    refine Any.p 12 rfl (by kernel_rfl) (by kernel_rfl) (by kernel_rfl) rfl Ev.assign ?_
    refine Any.p 13 rfl (by kernel_rfl) (by kernel_rfl) (by kernel_rfl) rfl Ev.assign ?_
    refine Any.done (by kernel_rfl) ?_
    refine JC.ret ?_
    show retQ _ _ _ _ _ _ _ _
    refine retB3 ag.api_Resting (hp := (show Part (s.all bk mb b) _ from (by repeat (first | exact Part.nil _ | refine Part.at (by repeat (first | exact At.z | apply At.s)) ?_)))) (hpost := ?_)
    exact ⟨rfl, rfl⟩
theorem tbFind {w : World} {bk mb id : Nat} {s : TS} {b : Bk} (hT : TOk s b) (hO : Own w (s.all bk mb b)) :
    Spec Go.Proofs.Try.prog 13 #[.pointer (some ⟨bk, 0, none⟩), .int .u64 (id : Int)] w (s.all bk mb b) (fun u H' => u = .tuple #[.agg (findF b id).1.enc.toArray, .int .i64 (findF b id).2.1, .bool (findF b id).2.2] ∧ H' = s.all bk mb b) := by
  rcases hT.find id with ⟨h1, h2⟩ | ⟨q, L1, l, L2, xs, o, ys, hf⟩
  · exact tbFindA h1 h2 hO
  · exact tbFindB hf hO
set_option maxHeartbeats 1000000 in
set_option maxRecDepth 100000 in
theorem tbLen {w : World} {bk mb : Nat} {s : TS} {b : Bk} (hT : TOk s b) (hO : Own w (s.all bk mb b)) :
    Spec Go.Proofs.Try.prog 14 #[.pointer (some ⟨bk, 0, none⟩)] w (s.all bk mb b) (fun u H' => u = .int .i64 ((b.buys.length + b.sells.length : Nat) : Int) ∧ H' = s.all bk mb b) := by
  refine Spec.enter (fn := Go.Proofs.Try.f14) (n := 8) [.pointer (some ⟨bk, 0, none⟩)] Go.Proofs.Try.func14 (by kernel_rfl) rfl Go.Proofs.Try.ntmps14 Go.Proofs.Try.results14 rfl hO ?_
  refine JC.rs ?_
  refine Seq.p rfl Ev.assign ?_
  refine Seq.nil ?_
  refine JC.rs ?_
  refine Seq.p rfl Ev.move ?_
  refine Seq.p rfl Ev.nilP ?_
  refine Seq.p rfl (Ev.faB fd.treebook_Book_2) ?_
  refine Seq.p rfl (Ev.ldB sc.m_uint64_p_treebook_order) ?_
  refine Seq.p rfl (Ev.qLen mp.m_uint64_p_treebook_order) ?_
  refine Seq.p rfl Ev.assign ?_
  refine Seq.nil ?_
  refine JC.ret ?_
  show retQ _ _ _ _ _ _ _ _
  refine ret1 (hp := (show Part (s.all bk mb b) _ from (by repeat (first | exact Part.nil _ | refine Part.at (by repeat (first | exact At.z | apply At.s)) ?_)))) (hpost := ?_)
  exact ⟨by rw [hT.size], rfl⟩
set_option maxHeartbeats 1000000 in
set_option maxRecDepth 100000 in
theorem tbLevels {w : World} {bk mb : Nat} {s : TS} {b : Bk} (hO : Own w (s.all bk mb b)) :
    Spec Go.Proofs.Try.prog 35 #[.pointer (some ⟨bk, 0, none⟩)] w (s.all bk mb b) (fun u H' => u = .tuple #[.int .i64 (s.t1.size : Int), .int .i64 (s.t2.size : Int)] ∧ H' = s.all bk mb b) := by
  refine Spec.enter (fn := Go.Proofs.Try.f35) (n := 14) [.pointer (some ⟨bk, 0, none⟩)] Go.Proofs.Try.func35 (by kernel_rfl) rfl Go.Proofs.Try.ntmps35 Go.Proofs.Try.results35 rfl hO ?_
  refine JC.rs ?_
  refine Seq.p rfl Ev.assign ?_
  refine Seq.p rfl Ev.assign ?_
  refine Seq.nil ?_
  refine JC.qs mixed (by kernel_rfl) ?_
  refine Qui.p rfl Ev.move ?_
  refine Qui.p rfl Ev.nilP ?_
  refine Qui.p rfl (Ev.faB fd.treebook_Book_1 (bk := bk) (o := 0)) ?_
  refine Qui.p rfl (Ev.iaArrN (bk := bk) (o := 2) (i := 0) ar.a2_avl_Tree_treebook_level) ?_
  refine Qui.call rfl (fun w hw => (avlLen (tb := bk) (k := 2) (t := s.t1) (Own.cellOf (b := bk) (T := bookT) (cs := bkL b.cap b.meet s.t1.adr s.t2.adr mb b.high b.seq) (Part.own (H' := [bookC bk b.cap b.meet s.t1.adr s.t2.adr mb b.high b.seq]) (by repeat (first | exact Part.nil _ | refine Part.at (by repeat (first | exact At.z | apply At.s)) ?_)) hw.own) List.mem_cons_self rfl) (Part.own (by repeat (first | exact Part.nil _ | refine Part.at (by repeat (first | exact At.z | apply At.s)) ?_)) hw.own))) ?_
  refine Qui.p rfl Ev.move ?_
  refine Qui.p rfl Ev.nilP ?_
  refine Qui.p rfl (Ev.faB fd.treebook_Book_1 (bk := bk) (o := 0)) ?_
  refine Qui.p rfl (Ev.iaArrN (bk := bk) (o := 2) (i := 1) ar.a2_avl_Tree_treebook_level) ?_
  refine Qui.call rfl (fun w hw => (avlLen (tb := bk) (k := 3) (t := s.t2) (Own.cellOf (b := bk) (T := bookT) (cs := bkL b.cap b.meet s.t1.adr s.t2.adr mb b.high b.seq) (Part.own (H' := [bookC bk b.cap b.meet s.t1.adr s.t2.adr mb b.high b.seq]) (by repeat (first | exact Part.nil _ | refine Part.at (by repeat (first | exact At.z | apply At.s)) ?_)) hw.own) List.mem_cons_self rfl) (Part.own (by repeat (first | exact Part.nil _ | refine Part.at (by repeat (first | exact At.z | apply At.s)) ?_)) hw.own))) ?_
  refine Qui.p rfl Ev.assign ?_
  refine Qui.p rfl Ev.assign ?_
  refine Qui.nil ?_
  refine JC.ret ?_
  show retQ _ _ _ _ _ _ _ _
  refine ret2 (hp := (show Part (s.all bk mb b) _ from (by repeat (first | exact Part.nil _ | refine Part.at (by repeat (first | exact At.z | apply At.s)) ?_)))) (hpost := ?_)
  exact ⟨rfl, rfl⟩
set_option maxHeartbeats 1000000 in
set_option maxRecDepth 100000 in
theorem tbHeights {w : World} {bk mb : Nat} {s : TS} {b : Bk} (hO : Own w (s.all bk mb b)) :
    Spec Go.Proofs.Try.prog 36 #[.pointer (some ⟨bk, 0, none⟩)] w (s.all bk mb b) (fun u H' => u = .tuple #[.int .i64 (s.t1.high : Int), .int .i64 (s.t2.high : Int)] ∧ H' = s.all bk mb b) := by
  refine Spec.enter (fn := Go.Proofs.Try.f36) (n := 14) [.pointer (some ⟨bk, 0, none⟩)] Go.Proofs.Try.func36 (by kernel_rfl) rfl Go.Proofs.Try.ntmps36 Go.Proofs.Try.results36 rfl hO ?_
  refine JC.rs ?_
  refine Seq.p rfl Ev.assign ?_
  refine Seq.p rfl Ev.assign ?_
  refine Seq.nil ?_
  refine JC.qs mixed (by kernel_rfl) ?_
  refine Qui.p rfl Ev.move ?_
  refine Qui.p rfl Ev.nilP ?_
  refine Qui.p rfl (Ev.faB fd.treebook_Book_1 (bk := bk) (o := 0)) ?_
  refine Qui.p rfl (Ev.iaArrN (bk := bk) (o := 2) (i := 0) ar.a2_avl_Tree_treebook_level) ?_
  refine Qui.call rfl (fun w hw => (avlHeight (tb := bk) (k := 2) (t := s.t1) (Own.cellOf (b := bk) (T := bookT) (cs := bkL b.cap b.meet s.t1.adr s.t2.adr mb b.high b.seq) (Part.own (H' := [bookC bk b.cap b.meet s.t1.adr s.t2.adr mb b.high b.seq]) (by repeat (first | exact Part.nil _ | refine Part.at (by repeat (first | exact At.z | apply At.s)) ?_)) hw.own) List.mem_cons_self rfl) (Part.own (by repeat (first | exact Part.nil _ | refine Part.at (by repeat (first | exact At.z | apply At.s)) ?_)) hw.own))) ?_
  refine Qui.p rfl Ev.move ?_
  refine Qui.p rfl Ev.nilP ?_
  refine Qui.p rfl (Ev.faB fd.treebook_Book_1 (bk := bk) (o := 0)) ?_
  refine Qui.p rfl (Ev.iaArrN (bk := bk) (o := 2) (i := 1) ar.a2_avl_Tree_treebook_level) ?_
  refine Qui.call rfl (fun w hw => (avlHeight (tb := bk) (k := 3) (t := s.t2) (Own.cellOf (b := bk) (T := bookT) (cs := bkL b.cap b.meet s.t1.adr s.t2.adr mb b.high b.seq) (Part.own (H' := [bookC bk b.cap b.meet s.t1.adr s.t2.adr mb b.high b.seq]) (by repeat (first | exact Part.nil _ | refine Part.at (by repeat (first | exact At.z | apply At.s)) ?_)) hw.own) List.mem_cons_self rfl) (Part.own (by repeat (first | exact Part.nil _ | refine Part.at (by repeat (first | exact At.z | apply At.s)) ?_)) hw.own))) ?_
  refine Qui.p rfl Ev.assign ?_
  refine Qui.p rfl Ev.assign ?_
  refine Qui.nil ?_
  refine JC.ret ?_
  show retQ _ _ _ _ _ _ _ _
  refine ret2 (hp := (show Part (s.all bk mb b) _ from (by repeat (first | exact Part.nil _ | refine Part.at (by repeat (first | exact At.z | apply At.s)) ?_)))) (hpost := ?_)
  exact ⟨rfl, rfl⟩
set_option maxHeartbeats 4000000 in
set_option maxRecDepth 100000 in
theorem tbBook {w : World} {bk mb : Nat} {s : TS} {b : Bk} (hT : TOk s b) (hl : b.live) (hO : Own w (s.all bk mb b)) :
    Spec Go.Proofs.Try.prog 19 #[.pointer (some ⟨bk, 0, none⟩)] w (s.all bk mb b) (fun u H' => ∃ A1 c1 A2 c2, u = .agg (b.cells (.slice A1 b.buys.length c1) (.slice A2 b.sells.length c2)).toArray ∧ H' = [bookC bk b.cap b.meet s.t1.adr s.t2.adr mb b.high b.seq, treeC nodeT s.t1, treeC nodeT s.t2, .mq mb (Value.int .u64) s.ids, levsC 1 s.B, levsC 2 s.S, rstL (.slice A1 b.buys.length c1) b.buys, rstL (.slice A2 b.sells.length c2) b.sells]) := by
  have hs1 : SideOk 1 s.t1 s.B b.buys := hT.one
  have hs2 : SideOk 2 s.t2 s.S b.sells := hT.two
  have hsz1 : s.t1.size ≤ 100000 := by have := (hs1.small (fun r hr => (hl.2.2 r (List.mem_append_left _ hr)).1) hl.2.1.1).1; omega
  have hsz2 : s.t2.size ≤ 100000 := by have := (hs2.small (fun r hr => (hl.2.2 r (List.mem_append_right _ hr)).1) hl.2.1.2).1; omega
  have hn1 : (absS 1 s.B).length ≤ 1000000 := by rw [hs1.abs]; have := hl.2.1.1; omega
  have hn2 : (absS 2 s.S).length ≤ 1000000 := by rw [hs2.abs]; have := hl.2.1.2; omega
  refine Spec.enter (fn := Go.Proofs.Try.f19) (n := 20) [.pointer (some ⟨bk, 0, none⟩)] Go.Proofs.Try.func19 (by kernel_rfl) rfl Go.Proofs.Try.ntmps19 Go.Proofs.Try.results19 rfl hO ?_
  refine JC.rs ?_
  refine Seq.alloc (cs := [_, _, _, _, _, _]) (hz := z.api_Book) (k := ?_); intro b2
  refine Seq.nil ?_
  refine JC.asP ([bookC bk b.cap b.meet s.t1.adr s.t2.adr mb b.high b.seq, treeC nodeT s.t1, treeC nodeT s.t2, .mq mb (Value.int .u64) s.ids, levsC 1 s.B, levsC 2 s.S]) mixed (by repeat (first | exact Part.nil _ | refine Part.at (by repeat (first | exact At.z | apply At.s)) ?_)) ?_
  refine Any.p 0 rfl (by kernel_rfl) (by kernel_rfl) (by kernel_rfl) rfl Ev.move ?_
  refine Any.p 1 rfl (by kernel_rfl) (by kernel_rfl) (by kernel_rfl) rfl Ev.nilP ?_
  refine Any.p 2 rfl (by kernel_rfl) (by kernel_rfl) (by kernel_rfl) rfl (Ev.faB fd.treebook_Book_0 (bk := bk) (o := 0)) ?_
  refine Any.p 3 rfl (by kernel_rfl) (by kernel_rfl) (by kernel_rfl) rfl (Ev.ldBPN [_, _] ag.api_Config) ?_
  refine Any.p 4 rfl (by kernel_rfl) (by kernel_rfl) (by kernel_rfl) rfl Ev.move ?_
  refine Any.p 6 rfl (by kernel_rfl) (by kernel_rfl) (by kernel_rfl) rfl Ev.move ?_
  refine Any.p 8 rfl (by kernel_rfl) (by kernel_rfl) (by kernel_rfl) rfl Ev.move ?_
  refine Any.p 9 rfl (by kernel_rfl) (by kernel_rfl) (by kernel_rfl) rfl Ev.nilP ?_
  refine Any.p 10 rfl (by kernel_rfl) (by kernel_rfl) (by kernel_rfl) rfl (Ev.faB fd.treebook_Book_3) ?_
  refine Any.p 11 rfl (by kernel_rfl) (by kernel_rfl) (by kernel_rfl) rfl (Ev.ldB sc.uint64) ?_
  refine Any.p 12 rfl (by kernel_rfl) (by kernel_rfl) (by kernel_rfl) rfl Ev.move ?_
  refine Any.p 13 rfl (by kernel_rfl) (by kernel_rfl) (by kernel_rfl) rfl Ev.nilP ?_
  refine Any.p 14 rfl (by kernel_rfl) (by kernel_rfl) (by kernel_rfl) rfl (Ev.faB fd.treebook_Book_4) ?_
  refine Any.p 15 rfl (by kernel_rfl) (by kernel_rfl) (by kernel_rfl) rfl (Ev.ldB sc.uint64) ?_
  refine Any.one 5 rfl (by kernel_rfl) ?_
  refine Seq.call rfl (fun w' hw => tbList1 (bk := bk) (mb := mb) (high := b.high) (seq := b.seq) (cap := b.cap) (meet := b.meet) (qa := s.t2.adr) (t := s.t1) (L := s.B) hs1.tie hsz1 hn1 (Part.own (by repeat (first | exact Part.nil _ | refine Part.at (by repeat (first | exact At.z | apply At.s)) ?_)) hw.own)) (Gs := [bookC bk b.cap b.meet s.t1.adr s.t2.adr mb b.high b.seq, treeC nodeT s.t1, levsC 1 s.B]) (F := _) (Perm.at (by repeat (first | exact At.z | apply At.s)) (Perm.at (by repeat (first | exact At.z | apply At.s)) (Perm.at (by repeat (first | exact At.z | apply At.s)) (Perm.none _)))) ?_
  rintro _ _ ⟨A1, c1, rfl, rfl⟩
  rw [hs1.abs]
  try simp only [List.cons_append, List.nil_append, List.eraseIdx_cons_zero, List.eraseIdx_cons_succ, List.set_cons_zero, List.set_cons_succ]
  refine Seq.nil ⟨(by repeat (first | exact Part.nil _ | refine Part.at (by repeat (first | exact At.z | apply At.s)) ?_)), ?_⟩
  refine Any.one 7 rfl (by kernel_rfl) ?_
  refine Seq.call rfl (fun w' hw => tbList2 (bk := bk) (mb := mb) (high := b.high) (seq := b.seq) (cap := b.cap) (meet := b.meet) (qa := s.t1.adr) (t := s.t2) (L := s.S) hs2.tie hsz2 hn2 (Part.own (by repeat (first | exact Part.nil _ | refine Part.at (by repeat (first | exact At.z | apply At.s)) ?_)) hw.own)) (Gs := [bookC bk b.cap b.meet s.t1.adr s.t2.adr mb b.high b.seq, treeC nodeT s.t2, levsC 2 s.S]) (F := _) (Perm.at (by repeat (first | exact At.z | apply At.s)) (Perm.at (by repeat (first | exact At.z | apply At.s)) (Perm.at (by repeat (first | exact At.z | apply At.s)) (Perm.none _)))) ?_
  rintro _ _ ⟨A2, c2, rfl, rfl⟩
  rw [hs2.abs]
  try simp only [List.cons_append, List.nil_append, List.eraseIdx_cons_zero, List.eraseIdx_cons_succ, List.set_cons_zero, List.set_cons_succ]
  refine Seq.nil ⟨(by repeat (first | exact Part.nil _ | refine Part.at (by repeat (first | exact At.z | apply At.s)) ?_)), ?_⟩
  refine Any.p 16 rfl (by kernel_rfl) (by kernel_rfl) (by kernel_rfl) rfl (Ev.buildN [_, _, _, _, _, _] pl.api_Book z.api_Book) ?_
  refine Any.one 17 rfl (by kernel_rfl) ?_
  refine Seq.storeN [_, _, _, _, _, _] sz.api_Book (k := ?_)
  refine Seq.nil ⟨(by repeat (first | exact Part.nil _ | refine Part.at (by repeat (first | exact At.z | apply At.s)) ?_)), ?_⟩
  refine Any.done (by kernel_rfl) ?_
  refine JC.ret ?_
  show retQ _ _ _ _ _ _ _ _
  refine retB1 ag.api_Book (hp := (show Part [bookC bk b.cap b.meet s.t1.adr s.t2.adr mb b.high b.seq, treeC nodeT s.t1, treeC nodeT s.t2, .mq mb (Value.int .u64) s.ids, levsC 1 s.B, levsC 2 s.S, rstL (.slice A1 b.buys.length c1) b.buys, rstL (.slice A2 b.sells.length c2) b.sells] _ from (by repeat (first | exact Part.nil _ | refine Part.at (by repeat (first | exact At.z | apply At.s)) ?_)))) (hpost := ?_)
  exact ⟨A1, c1, A2, c2, rfl, rfl⟩
end Go.Rx
