/- The rule layer, fourth part: operations on memory, texts, slices. -/
import Derived.Test.YtcggppjpnepoiaaDoorRxOps
namespace Go.Rx
open Go Go.RowKit
set_option linter.unusedVariables false
set_option linter.unusedSimpArgs false
section
variable {P : Program} {w0 : World} {Cs H : List Chunk} {e : Env} {ty tx ty' : TypeId} {x y : Operand} {k k' : IntKind} {a b : Int}
theorem Ev.not {p : Bool} (hx : Look e x (.bool p) := by repeat (first | exact Look.here | apply Look.there (hne := rfl) | exact Look.const | apply Look.mix rfl | exact Look.arg0 | apply Look.args | exact Look.func)) : Ev P w0 Cs H e (.unOp .not tx x) ty (.bool (!p)) := by
  intro w _ d pos af g
  replace hx := hx.eq
  simp [execOp, hx, Op.unary]
theorem eqGuard_bool (op : BinOp) (t : TypeId) (p q : Bool) (w : World) : (eqGuard op t x y (.bool p) (.bool q)).run P w = .ok () w := by
  unfold eqGuard
  cases op <;> simp
theorem equal_bool (t : TypeId) (ht : isBoolT P t = true) (p q : Bool) (w : World) : (Op.equal t (.bool p) (.bool q)).run P w = .ok (p == q) w := by
  have h : ∀ n, (Op.equalIn (n + 1) t (.bool p) (.bool q)).run P w = .ok (p == q) w := by
    intro n
    unfold Op.equalIn
    simp [run_underlying (isBoolT_und ht)]
  exact h 9999
theorem Ev.eqB {p q : Bool} (ht : isBoolT P tx = true) (hx : Look e x (.bool p) := by repeat (first | exact Look.here | apply Look.there (hne := rfl) | exact Look.const | apply Look.mix rfl | exact Look.arg0 | apply Look.args | exact Look.func)) (hy : Look e y (.bool q) := by repeat (first | exact Look.here | apply Look.there (hne := rfl) | exact Look.const | apply Look.mix rfl | exact Look.arg0 | apply Look.args | exact Look.func)) : Ev P w0 Cs H e (.binOp .eql tx x y ty') ty (.bool (p == q)) := by
  intro w _ d pos af g
  replace hx := hx.eq
  replace hy := hy.eq
  simp [execOp, hx, hy, eqGuard_bool, binOp, equal_bool tx ht]
theorem Ev.neB {p q : Bool} (ht : isBoolT P tx = true) (hx : Look e x (.bool p) := by repeat (first | exact Look.here | apply Look.there (hne := rfl) | exact Look.const | apply Look.mix rfl | exact Look.arg0 | apply Look.args | exact Look.func)) (hy : Look e y (.bool q) := by repeat (first | exact Look.here | apply Look.there (hne := rfl) | exact Look.const | apply Look.mix rfl | exact Look.arg0 | apply Look.args | exact Look.func)) : Ev P w0 Cs H e (.binOp .neq tx x y ty') ty (.bool (p != q)) := by
  intro w _ d pos af g
  replace hx := hx.eq
  replace hy := hy.eq
  simp [execOp, hx, hy, eqGuard_bool, binOp, equal_bool tx ht, bne]
/-- A number turned into another kind. -/
theorem Ev.convW (hs : intOfT P tx k' = true) (hd : intOfT P ty' k = true) (hx : Look e x (.int k' a) := by repeat (first | exact Look.here | apply Look.there (hne := rfl) | exact Look.const | apply Look.mix rfl | exact Look.arg0 | apply Look.args | exact Look.func)) : Ev P w0 Cs H e (.convert tx ty' x) ty (.int k (k.wrap a)) := by
  intro w _ d pos af g
  replace hx := hx.eq
  simp [execOp, hx, convert, run_underlying (intOfT_und hs), run_underlying (intOfT_und hd), Conv.intToInt]
theorem Ev.conv64 (hs : intOfT P tx k' = true) (hd : intOfT P ty' .i64 = true) (hx : Look e x (.int k' a) := by repeat (first | exact Look.here | apply Look.there (hne := rfl) | exact Look.const | apply Look.mix rfl | exact Look.arg0 | apply Look.args | exact Look.func)) (h : -9223372036854775808 ≤ a ∧ a ≤ 9223372036854775807 := by omega) : Ev P w0 Cs H e (.convert tx ty' x) ty (.int .i64 a) := by
  have := Ev.convW (w0 := w0) (Cs := Cs) (H := H) (ty := ty) hs hd hx
  rwa [wrap_i64 _ h] at this
theorem Ev.convU64 (hs : intOfT P tx k' = true) (hd : intOfT P ty' .u64 = true) (hx : Look e x (.int k' a) := by repeat (first | exact Look.here | apply Look.there (hne := rfl) | exact Look.const | apply Look.mix rfl | exact Look.arg0 | apply Look.args | exact Look.func)) (h : 0 ≤ a ∧ a ≤ 18446744073709551615 := by omega) : Ev P w0 Cs H e (.convert tx ty' x) ty (.int .u64 a) := by
  have := Ev.convW (w0 := w0) (Cs := Cs) (H := H) (ty := ty) hs hd hx
  rwa [wrap_u64 _ h] at this
theorem Ev.convU64W (hs : intOfT P tx k' = true) (hd : intOfT P ty' .u64 = true) (hx : Look e x (.int k' a) := by repeat (first | exact Look.here | apply Look.there (hne := rfl) | exact Look.const | apply Look.mix rfl | exact Look.arg0 | apply Look.args | exact Look.func)) : Ev P w0 Cs H e (.convert tx ty' x) ty (.int .u64 (a % 18446744073709551616)) := by
  have := Ev.convW (w0 := w0) (Cs := Cs) (H := H) (ty := ty) hs hd hx
  rwa [wrap_u64'] at this
theorem Ev.convU32 (hs : intOfT P tx k' = true) (hd : intOfT P ty' .u32 = true) (hx : Look e x (.int k' a) := by repeat (first | exact Look.here | apply Look.there (hne := rfl) | exact Look.const | apply Look.mix rfl | exact Look.arg0 | apply Look.args | exact Look.func)) (h : 0 ≤ a ∧ a ≤ 4294967295 := by omega) : Ev P w0 Cs H e (.convert tx ty' x) ty (.int .u32 a) := by
  have := Ev.convW (w0 := w0) (Cs := Cs) (H := H) (ty := ty) hs hd hx
  rwa [wrap_u32 _ h] at this
theorem Ev.convU32W (hs : intOfT P tx k' = true) (hd : intOfT P ty' .u32 = true) (hx : Look e x (.int k' a) := by repeat (first | exact Look.here | apply Look.there (hne := rfl) | exact Look.const | apply Look.mix rfl | exact Look.arg0 | apply Look.args | exact Look.func)) : Ev P w0 Cs H e (.convert tx ty' x) ty (.int .u32 (a % 4294967296)) := by
  have := Ev.convW (w0 := w0) (Cs := Cs) (H := H) (ty := ty) hs hd hx
  rwa [wrap_u32'] at this
theorem Ev.convU8 (hs : intOfT P tx k' = true) (hd : intOfT P ty' .u8 = true) (hx : Look e x (.int k' a) := by repeat (first | exact Look.here | apply Look.there (hne := rfl) | exact Look.const | apply Look.mix rfl | exact Look.arg0 | apply Look.args | exact Look.func)) (h : 0 ≤ a ∧ a ≤ 255 := by omega) : Ev P w0 Cs H e (.convert tx ty' x) ty (.int .u8 a) := by
  have := Ev.convW (w0 := w0) (Cs := Cs) (H := H) (ty := ty) hs hd hx
  rwa [wrap_u8 _ h] at this
theorem Ev.convU8W (hs : intOfT P tx k' = true) (hd : intOfT P ty' .u8 = true) (hx : Look e x (.int k' a) := by repeat (first | exact Look.here | apply Look.there (hne := rfl) | exact Look.const | apply Look.mix rfl | exact Look.arg0 | apply Look.args | exact Look.func)) : Ev P w0 Cs H e (.convert tx ty' x) ty (.int .u8 (a % 256)) := by
  have := Ev.convW (w0 := w0) (Cs := Cs) (H := H) (ty := ty) hs hd hx
  rwa [wrap_u8'] at this
/-- Shifts by a number that is not below 0. -/
theorem Ev.shlW (hx : Look e x (.int k a) := by repeat (first | exact Look.here | apply Look.there (hne := rfl) | exact Look.const | apply Look.mix rfl | exact Look.arg0 | apply Look.args | exact Look.func)) (hy : Look e y (.int k' b) := by repeat (first | exact Look.here | apply Look.there (hne := rfl) | exact Look.const | apply Look.mix rfl | exact Look.arg0 | apply Look.args | exact Look.func)) (hb : 0 ≤ b := by omega) : Ev P w0 Cs H e (.binOp .shl tx x y ty') ty (.int k (k.wrap (a * 2 ^ (min b.toNat k.bits)))) := by
  intro w _ d pos af g
  replace hx := hx.eq
  replace hy := hy.eq
  have hn : ¬ b < 0 := by omega
  have hg : (eqGuard .shl tx x y (.int k a) (.int k' b)).run P w = .ok () w := by unfold eqGuard; simp
  simp [execOp, hx, hy, hg, binOp, Op.shift, hn]
theorem Ev.shrW (hx : Look e x (.int k a) := by repeat (first | exact Look.here | apply Look.there (hne := rfl) | exact Look.const | apply Look.mix rfl | exact Look.arg0 | apply Look.args | exact Look.func)) (hy : Look e y (.int k' b) := by repeat (first | exact Look.here | apply Look.there (hne := rfl) | exact Look.const | apply Look.mix rfl | exact Look.arg0 | apply Look.args | exact Look.func)) (hb : 0 ≤ b := by omega) : Ev P w0 Cs H e (.binOp .shr tx x y ty') ty (.int k (a / 2 ^ (min b.toNat k.bits))) := by
  intro w _ d pos af g
  replace hx := hx.eq
  replace hy := hy.eq
  have hn : ¬ b < 0 := by omega
  have hg : (eqGuard .shr tx x y (.int k a) (.int k' b)).run P w = .ok () w := by unfold eqGuard; simp
  have hp : (0 : Int) ≤ 2 ^ (min b.toNat k.bits) := Int.pow_nonneg (by omega)
  simp [execOp, hx, hy, hg, binOp, Op.shift, hn, Int.fdiv_eq_ediv_of_nonneg a hp]
theorem Ev.bits {op : BinOp} (f : BitVec k.bits → BitVec k.bits → BitVec k.bits) (hop : (op = .and ∧ f = (· &&& ·)) ∨ (op = .or ∧ f = (· ||| ·)) ∨ (op = .xor ∧ f = (· ^^^ ·)) ∨ (op = .andNot ∧ f = fun a b => a &&& ~~~b))
    (hx : Look e x (.int k a) := by repeat (first | exact Look.here | apply Look.there (hne := rfl) | exact Look.const | apply Look.mix rfl | exact Look.arg0 | apply Look.args | exact Look.func)) (hy : Look e y (.int k b) := by repeat (first | exact Look.here | apply Look.there (hne := rfl) | exact Look.const | apply Look.mix rfl | exact Look.arg0 | apply Look.args | exact Look.func)) : Ev P w0 Cs H e (.binOp op tx x y ty') ty (.int k (k.wrap (f (BitVec.ofInt k.bits a) (BitVec.ofInt k.bits b)).toNat)) := by
  intro w _ d pos af g
  replace hx := hx.eq
  replace hy := hy.eq
  rcases hop with ⟨rfl, rfl⟩ | ⟨rfl, rfl⟩ | ⟨rfl, rfl⟩ | ⟨rfl, rfl⟩ <;> simp [execOp, hx, hy, eqGuard_int, binOp, Op.intBits]

/-! ### parts of values -/
theorem Ev.extract {i : Nat} {vs : List Value} {v : Value} (hx : Look e x (.tuple vs.toArray) := by repeat (first | exact Look.here | apply Look.there (hne := rfl) | exact Look.const | apply Look.mix rfl | exact Look.arg0 | apply Look.args | exact Look.func)) (hv : vs[i]? = some v := by rfl) : Ev P w0 Cs H e (.extract x i) ty v := by
  intro w _ d pos af g
  replace hx := hx.eq
  simp [execOp, hx, Instr.extract, hv]
theorem run_part_sc {t : TypeId} (h : isSc P t = true) {cs : List Value} {off : Nat} {v : Value} (hv : cs[off]? = some v) (w : World) : (Go.part t cs.toArray off).run P w = .ok v w := by
  simp [Go.part, isSc_run h, hv]
theorem run_part_ag {t : TypeId} {n : Nat} (h : isAg P t n = true) {cs : List Value} {off : Nat} (w : World) : (Go.part t cs.toArray off).run P w = .ok (.agg ((cs.drop off).take n).toArray) w := by
  have := isAg_run h w
  simp [Go.part, this.1, this.2]
theorem fldOf_parts {s ft : TypeId} {f off n : Nat} (h : fldOf P s f off ft n = true) : ∃ fs x, P.underlying s = some (.struct fs) ∧ fs[f]? = some x ∧ x.offset = off ∧ x.type = ft := by
  unfold fldOf at h
  split at h
  · rename_i fs hs
    split at h
    · rename_i x hx
      simp only [Bool.and_eq_true, beq_iff_eq, decide_eq_true_eq] at h
      exact ⟨fs, x, hs, hx, h.1.1.1, h.1.1.2⟩
    · cases h
  · cases h
/-- A field of a struct by value. -/
theorem Ev.fieldS {s ft : TypeId} {f off n : Nat} {cs : List Value} {v : Value} (hf : fldOf P s f off ft n = true) (ht : isSc P ft = true) (hx : Look e x (.agg cs.toArray) := by repeat (first | exact Look.here | apply Look.there (hne := rfl) | exact Look.const | apply Look.mix rfl | exact Look.arg0 | apply Look.args | exact Look.func)) (hv : cs[off]? = some v := by rfl) : Ev P w0 Cs H e (.field s x f) ty v := by
  intro w _ d pos af g
  replace hx := hx.eq
  obtain ⟨fs, z, h1, h2, rfl, rfl⟩ := fldOf_parts hf
  simp [execOp, hx, Instr.field, run_underlying h1, h2, asAgg, run_part_sc ht hv]
theorem Ev.fieldA {s ft : TypeId} {f off n m : Nat} {cs : List Value} (hf : fldOf P s f off ft n = true) (ht : isAg P ft m = true) (hx : Look e x (.agg cs.toArray) := by repeat (first | exact Look.here | apply Look.there (hne := rfl) | exact Look.const | apply Look.mix rfl | exact Look.arg0 | apply Look.args | exact Look.func)) : Ev P w0 Cs H e (.field s x f) ty (.agg ((cs.drop off).take m).toArray) := by
  intro w _ d pos af g
  replace hx := hx.eq
  obtain ⟨fs, z, h1, h2, rfl, rfl⟩ := fldOf_parts hf
  simp [execOp, hx, Instr.field, run_underlying h1, h2, asAgg, run_part_ag ht]
/-- An element of an array by value. -/
theorem Ev.indexS {s el : TypeId} {len sz : Nat} {i : Int} {cs : List Value} {v : Value} (hs : arrOf P s len el sz = true) (ht : isSc P el = true) (hx : Look e x (.agg cs.toArray) := by repeat (first | exact Look.here | apply Look.there (hne := rfl) | exact Look.const | apply Look.mix rfl | exact Look.arg0 | apply Look.args | exact Look.func)) (hy : Look e y (.int k i) := by repeat (first | exact Look.here | apply Look.there (hne := rfl) | exact Look.const | apply Look.mix rfl | exact Look.arg0 | apply Look.args | exact Look.func))
    (hi : 0 ≤ i ∧ i < len := by omega) (hv : cs[i.toNat * sz]? = some v := by rfl) : Ev P w0 Cs H e (.index s x y) ty v := by
  intro w _ d pos af g
  replace hx := hx.eq
  replace hy := hy.eq
  obtain ⟨h1, h2⟩ := arrOf_und hs
  simp [execOp, hx, hy, Instr.index, asIntOf, run_underlying h1, hi, szOf_run h2, run_part_sc ht hv]
theorem Ev.indexA {s el : TypeId} {len sz : Nat} {i : Int} {cs : List Value} (hs : arrOf P s len el sz = true) (ht : isAg P el sz = true) (hx : Look e x (.agg cs.toArray) := by repeat (first | exact Look.here | apply Look.there (hne := rfl) | exact Look.const | apply Look.mix rfl | exact Look.arg0 | apply Look.args | exact Look.func)) (hy : Look e y (.int k i) := by repeat (first | exact Look.here | apply Look.there (hne := rfl) | exact Look.const | apply Look.mix rfl | exact Look.arg0 | apply Look.args | exact Look.func))
    (hi : 0 ≤ i ∧ i < len := by omega) : Ev P w0 Cs H e (.index s x y) ty (.agg ((cs.drop (i.toNat * sz)).take sz).toArray) := by
  intro w _ d pos af g
  replace hx := hx.eq
  replace hy := hy.eq
  obtain ⟨h1, h2⟩ := arrOf_und hs
  simp [execOp, hx, hy, Instr.index, asIntOf, run_underlying h1, hi, szOf_run h2, run_part_ag ht]
/-- Byte number k of a text. -/
def bAt (s : ByteArray) (k : Nat) : Int := ((s.data.toList[k]?.getD 0).toNat : Int)
theorem bAt_range (s : ByteArray) (k : Nat) : 0 ≤ bAt s k ∧ bAt s k ≤ 255 := by
  unfold bAt
  have := (s.data.toList[k]?.getD 0).toNat_lt
  omega
theorem get_bAt (s : ByteArray) (k : Nat) (h : k < s.size) : (((s[k]'h).toNat : Nat) : Int) = bAt s k := by
  have h' : k < s.data.size := h
  unfold bAt
  have : s.data.toList[k]? = some (s[k]'h) := by
    rw [Array.getElem?_toList, Array.getElem?_eq_getElem h']
    rfl
  rw [this]
  rfl
theorem Ev.indexStr {s : ByteArray} {i : Int} (ht : isStr P tx = true) (hx : Look e x (.string s) := by repeat (first | exact Look.here | apply Look.there (hne := rfl) | exact Look.const | apply Look.mix rfl | exact Look.arg0 | apply Look.args | exact Look.func)) (hy : Look e y (.int k i) := by repeat (first | exact Look.here | apply Look.there (hne := rfl) | exact Look.const | apply Look.mix rfl | exact Look.arg0 | apply Look.args | exact Look.func)) (hi : 0 ≤ i ∧ i < s.size := by omega) : Ev P w0 Cs H e (.index tx x y) ty (.int .u8 (bAt s i.toNat)) := by
  intro w _ d pos af g
  replace hx := hx.eq
  replace hy := hy.eq
  have hlt : i.toNat < s.size := by omega
  have hb := get_bAt s i.toNat hlt
  simp [execOp, hx, hy, Instr.index, asIntOf, run_underlying (isStr_und ht), hi, hlt, hb]
theorem Ev.lenStr {s : ByteArray} {t : TypeId} (ht : isStr P t = true) (hx : Look e x (.string s) := by repeat (first | exact Look.here | apply Look.there (hne := rfl) | exact Look.const | apply Look.mix rfl | exact Look.arg0 | apply Look.args | exact Look.func)) : Ev P w0 Cs H e (.call ⟨.builtin .len, #[x], #[t]⟩) ty (.int .i64 (s.size : Int)) := by
  intro w _ d pos af g
  replace hx := hx.eq
  simp [execOp, resolve, invoke, builtin, hx, Builtin.len_, run_underlying (isStr_und ht), goInt]
theorem Ev.lenArr {t el : TypeId} {n m : Nat} {v : Value} (ht : arrOf P t n el m = true) (hx : Look e x v := by repeat (first | exact Look.here | apply Look.there (hne := rfl) | exact Look.const | apply Look.mix rfl | exact Look.arg0 | apply Look.args | exact Look.func)) : Ev P w0 Cs H e (.call ⟨.builtin .len, #[x], #[t]⟩) ty (.int .i64 (n : Int)) := by
  intro w _ d pos af g
  replace hx := hx.eq
  simp [execOp, resolve, invoke, builtin, hx, Builtin.len_, run_underlying (arrOf_und ht).1, goInt]
theorem byteArray_beq (s t : ByteArray) : (s.toList == t.toList) = decide (s = t) := by
  have hl : ∀ s : ByteArray, s.toList = s.data.toList := by
    intro s
    exact ByteArray.toList_eq s
  rw [hl, hl]
  have h : s.data.toList = t.data.toList ↔ s = t := by
    constructor
    · intro h
      cases s; cases t
      simp only [ByteArray.mk.injEq]
      exact Array.toList_inj.1 h
    · rintro rfl; rfl
  by_cases he : s = t
  · simp [he]
  · have : ¬ s.data.toList = t.data.toList := fun h' => he (h.1 h')
    rw [decide_eq_false he]
    exact beq_eq_false_iff_ne.2 this
theorem eqGuard_str (op : BinOp) (t : TypeId) (p q : ByteArray) (w : World) : (eqGuard op t x y (.string p) (.string q)).run P w = .ok () w := by
  unfold eqGuard
  cases op <;> simp
theorem Ev.eqStr {s t : ByteArray} (hx : Look e x (.string s) := by repeat (first | exact Look.here | apply Look.there (hne := rfl) | exact Look.const | apply Look.mix rfl | exact Look.arg0 | apply Look.args | exact Look.func)) (hy : Look e y (.string t) := by repeat (first | exact Look.here | apply Look.there (hne := rfl) | exact Look.const | apply Look.mix rfl | exact Look.arg0 | apply Look.args | exact Look.func)) : Ev P w0 Cs H e (.binOp .eql tx x y ty') ty (.bool (decide (s = t))) := by
  intro w _ d pos af g
  replace hx := hx.eq
  replace hy := hy.eq
  have := byteArray_beq s t
  simp only [execOp, hx, hy, binOp, Op.stringOp, this]
  simp [eqGuard_str]
theorem Ev.neStr {s t : ByteArray} (hx : Look e x (.string s) := by repeat (first | exact Look.here | apply Look.there (hne := rfl) | exact Look.const | apply Look.mix rfl | exact Look.arg0 | apply Look.args | exact Look.func)) (hy : Look e y (.string t) := by repeat (first | exact Look.here | apply Look.there (hne := rfl) | exact Look.const | apply Look.mix rfl | exact Look.arg0 | apply Look.args | exact Look.func)) : Ev P w0 Cs H e (.binOp .neq tx x y ty') ty (.bool (decide (s ≠ t))) := by
  intro w _ d pos af g
  replace hx := hx.eq
  replace hy := hy.eq
  have := byteArray_beq s t
  simp only [execOp, hx, hy, binOp, Op.stringOp, this]
  simp [eqGuard_str]
theorem Ev.addStr {s t : ByteArray} (hx : Look e x (.string s) := by repeat (first | exact Look.here | apply Look.there (hne := rfl) | exact Look.const | apply Look.mix rfl | exact Look.arg0 | apply Look.args | exact Look.func)) (hy : Look e y (.string t) := by repeat (first | exact Look.here | apply Look.there (hne := rfl) | exact Look.const | apply Look.mix rfl | exact Look.arg0 | apply Look.args | exact Look.func)) (h : s.size + t.size ≤ 9223372036854775807 := by omega) : Ev P w0 Cs H e (.binOp .add tx x y ty') ty (.string (s ++ t)) := by
  intro w _ d pos af g
  replace hx := hx.eq
  replace hy := hy.eq
  have hm : ¬ ((s.size + t.size : Nat) : Int) > IntKind.i64.max := by simp [IntKind.max, IntKind.signed, IntKind.bits]; omega
  simp only [execOp, hx, hy, binOp, Op.stringOp]
  rw [if_neg hm]
  simp [eqGuard_str]

/-- In every world of the class v is a slice that reads as xs. -/
def RAt {α : Type} [Inhabited α] (w0 : World) (Cs H : List Chunk) (enc : α → List Value) (sz : Nat) (v : Value) (xs : List α) : Prop := ∀ w, Upd w0 w Cs H → ∃ Cs', RSl enc sz w Cs' v xs
theorem RSl.r {α : Type} [Inhabited α] {enc : α → List Value} {sz : Nat} {v : Value} {xs : List α} (h : RSl enc sz w0 Cs v xs) : RAt w0 Cs H enc sz v xs := fun w hw => ⟨_, h.at_ hw⟩
/-! ### addresses, and what is read at them -/
theorem Ev.fa {s ft : TypeId} {f off n : Nat} {ad : Addr} (hf : fldOf P s f off ft n = true) (hx : Look e x (.pointer (some ad)) := by repeat (first | exact Look.here | apply Look.there (hne := rfl) | exact Look.const | apply Look.mix rfl | exact Look.arg0 | apply Look.args | exact Look.func)) : Ev P w0 Cs H e (.fieldAddr s x f) ty (.pointer (some (ad.add off))) := by
  intro w _ d pos af g
  replace hx := hx.eq
  simp [execOp, hx, fldOf_run hf]
/-- A field of a variable of the call's own. -/
theorem Ev.faB {s ft : TypeId} {f off o n bk : Nat} (hf : fldOf P s f off ft n = true) (hx : Look e x (.pointer (some ⟨bk, o, none⟩)) := by repeat (first | exact Look.here | apply Look.there (hne := rfl) | exact Look.const | apply Look.mix rfl | exact Look.arg0 | apply Look.args | exact Look.func)) : Ev P w0 Cs H e (.fieldAddr s x f) ty (.pointer (some ⟨bk, o + off, none⟩)) := by
  have := Ev.fa (w0 := w0) (Cs := Cs) (H := H) (ty := ty) hf hx
  have h2 : (⟨bk, o, none⟩ : Addr).add off = ⟨bk, o + off, none⟩ := by unfold Addr.add; split <;> simp_all
  rwa [h2] at this
theorem Ev.iaSl {α : Type} [Inhabited α] {enc : α → List Value} {s el : TypeId} {sz : Nat} {v : Value} {xs : List α} {i : Int} (hs : slcOf P s el sz = true) (hx : Look e x v := by repeat (first | exact Look.here | apply Look.there (hne := rfl) | exact Look.const | apply Look.mix rfl | exact Look.arg0 | apply Look.args | exact Look.func)) (hy : Look e y (.int k i) := by repeat (first | exact Look.here | apply Look.there (hne := rfl) | exact Look.const | apply Look.mix rfl | exact Look.arg0 | apply Look.args | exact Look.func)) (hr : RAt w0 Cs H enc sz v xs)
    (hi : 0 ≤ i ∧ i < xs.length := by omega) : Ev P w0 Cs H e (.indexAddr s x y) ty (.pointer (some ((sbase v).add (i.toNat * sz)))) := by
  intro w hw d pos af g
  replace hx := hx.eq
  replace hy := hy.eq
  obtain ⟨Cs', hr⟩ := hr w hw
  obtain ⟨A, c, rfl, hc, hA⟩ := hr.shape
  obtain ⟨h1, h2⟩ := slcOf_und hs
  cases A with
  | none =>
    have := hA rfl
    subst this
    simp at hi
    omega
  | some ad => simp [execOp, hx, hy, Instr.indexAt, asIntOf, run_underlying h1, hi, szOf_run h2, sbase]
theorem Ev.iaN {α : Type} [Inhabited α] {enc : α → List Value} {s el : TypeId} {sz : Nat} {v : Value} {xs : List α} {i : Nat} (hs : slcOf P s el sz = true) (hx : Look e x v := by repeat (first | exact Look.here | apply Look.there (hne := rfl) | exact Look.const | apply Look.mix rfl | exact Look.arg0 | apply Look.args | exact Look.func)) (hy : Look e y (.int k (i : Int)) := by repeat (first | exact Look.here | apply Look.there (hne := rfl) | exact Look.const | apply Look.mix rfl | exact Look.arg0 | apply Look.args | exact Look.func)) (hr : RAt w0 Cs H enc sz v xs)
    (hi : i < xs.length := by omega) : Ev P w0 Cs H e (.indexAddr s x y) ty (.pointer (some ((sbase v).add (i * sz)))) := by
  have := Ev.iaSl (w0 := w0) (Cs := Cs) (H := H) (ty := ty) hs hx hy hr (by omega)
  rwa [Int.toNat_natCast] at this
theorem Ev.iaArr {s el : TypeId} {len sz : Nat} {ad : Addr} {i : Int} (hs : arrOf P s len el sz = true) (hx : Look e x (.pointer (some ad)) := by repeat (first | exact Look.here | apply Look.there (hne := rfl) | exact Look.const | apply Look.mix rfl | exact Look.arg0 | apply Look.args | exact Look.func)) (hy : Look e y (.int k i) := by repeat (first | exact Look.here | apply Look.there (hne := rfl) | exact Look.const | apply Look.mix rfl | exact Look.arg0 | apply Look.args | exact Look.func))
    (hi : 0 ≤ i ∧ i < len := by omega) : Ev P w0 Cs H e (.indexAddr s x y) ty (.pointer (some (ad.add (i.toNat * sz)))) := by
  intro w hw d pos af g
  replace hx := hx.eq
  replace hy := hy.eq
  obtain ⟨h1, h2⟩ := arrOf_und hs
  simp [execOp, hx, hy, Instr.indexAt, asIntOf, run_underlying h1, hi, szOf_run h2, Instr.sureAddr]
theorem Ev.iaArrB {s el : TypeId} {len sz bk o : Nat} {i : Int} (hs : arrOf P s len el sz = true) (hx : Look e x (.pointer (some ⟨bk, o, none⟩)) := by repeat (first | exact Look.here | apply Look.there (hne := rfl) | exact Look.const | apply Look.mix rfl | exact Look.arg0 | apply Look.args | exact Look.func)) (hy : Look e y (.int k i) := by repeat (first | exact Look.here | apply Look.there (hne := rfl) | exact Look.const | apply Look.mix rfl | exact Look.arg0 | apply Look.args | exact Look.func))
    (hi : 0 ≤ i ∧ i < len := by omega) : Ev P w0 Cs H e (.indexAddr s x y) ty (.pointer (some ⟨bk, o + i.toNat * sz, none⟩)) := by
  have := Ev.iaArr (w0 := w0) (Cs := Cs) (H := H) (ty := ty) hs hx hy hi
  have h2 : ∀ off, (⟨bk, o, none⟩ : Addr).add off = ⟨bk, o + off, none⟩ := by intro off; unfold Addr.add; split <;> simp_all
  rwa [h2] at this
theorem Ev.iaArrN {s el : TypeId} {len sz bk o : Nat} {i : Nat} (hs : arrOf P s len el sz = true) (hx : Look e x (.pointer (some ⟨bk, o, none⟩)) := by repeat (first | exact Look.here | apply Look.there (hne := rfl) | exact Look.const | apply Look.mix rfl | exact Look.arg0 | apply Look.args | exact Look.func)) (hy : Look e y (.int k (i : Int)) := by repeat (first | exact Look.here | apply Look.there (hne := rfl) | exact Look.const | apply Look.mix rfl | exact Look.arg0 | apply Look.args | exact Look.func))
    (hi : i < len := by omega) : Ev P w0 Cs H e (.indexAddr s x y) ty (.pointer (some ⟨bk, o + i * sz, none⟩)) := by
  have := Ev.iaArrB (w0 := w0) (Cs := Cs) (H := H) (ty := ty) hs hx hy (by omega)
  rwa [Int.toNat_natCast] at this
/-- Cells that read so in every world of the class. -/
def Cells (w0 : World) (Cs H : List Chunk) (ad : Addr) (cs : List Value) : Prop := ∀ w, Upd w0 w Cs H → ∀ j u, cs[j]? = some u → w.cell? (ad.add j) = some u
theorem Ev.ldS {t : TypeId} {ad : Addr} {v : Value} (ht : isSc P t = true) (hc : Cells w0 Cs H ad [v]) (hx : Look e x (.pointer (some ad)) := by repeat (first | exact Look.here | apply Look.there (hne := rfl) | exact Look.const | apply Look.mix rfl | exact Look.arg0 | apply Look.args | exact Look.func)) : Ev P w0 Cs H e (.load t x) ty v := by
  intro w hw d pos af g
  replace hx := hx.eq
  have h := hc w hw 0 v rfl
  rw [Addr.add_zero] at h
  simp [execOp, hx, Instr.loadAt, Instr.sureAddr, loadVar, isSc_run ht, h]
theorem Ev.ldA {t : TypeId} {ad : Addr} {n : Nat} {cs : List Value} (ht : isAg P t n = true) (hc : Cells w0 Cs H ad cs) (hn : cs.length = n := by rfl) (hx : Look e x (.pointer (some ad)) := by repeat (first | exact Look.here | apply Look.there (hne := rfl) | exact Look.const | apply Look.mix rfl | exact Look.arg0 | apply Look.args | exact Look.func)) : Ev P w0 Cs H e (.load t x) ty (.agg cs.toArray) := by
  intro w hw d pos af g
  replace hx := hx.eq
  have h := run_loadCells_list (P := P) (w := w) ad cs (hc w hw)
  obtain ⟨h1, h2⟩ := isAg_run ht w
  simp [execOp, hx, Instr.loadAt, Instr.sureAddr, loadVar, h1, h2, ← hn, h]
theorem Cells.boxed {bk off i : Nat} {t : TypeId} {cs ds : List Value} (hH : At H i (.box bk t cs)) (hd : ∀ j u, ds[j]? = some u → cs[off + j]? = some u) : Cells w0 Cs H ⟨bk, off, none⟩ ds := by
  intro w hw j u hu
  have hb : w.heap[bk]? = some (.cells cs.toArray t (0, 0)) := hH.ok hw
  have h2 : (⟨bk, off, none⟩ : Addr).add j = ⟨bk, off + j, none⟩ := by unfold Addr.add; split <;> simp_all
  rw [h2, cell_of_row w bk (off + j) cs.toArray t (0, 0) hb]
  simpa using hd j u hu
/-- A field of a variable of the call's own is read. -/
theorem Ev.ldB {t tb : TypeId} {bk off i : Nat} {cs : List Value} {v : Value} (ht : isSc P t = true) (hx : Look e x (.pointer (some ⟨bk, off, none⟩)) := by repeat (first | exact Look.here | apply Look.there (hne := rfl) | exact Look.const | apply Look.mix rfl | exact Look.arg0 | apply Look.args | exact Look.func)) (hH : At H i (.box bk tb cs) := by repeat (first | exact At.z | apply At.s)) (hv : cs[off]? = some v := by rfl) : Ev P w0 Cs H e (.load t x) ty v :=
  Ev.ldS ht (Cells.boxed hH (fun j u hu => by cases j with | zero => simp at hu; subst hu; simpa using hv | succ j => simp at hu)) hx
/-- A whole variable of the call's own is read. -/
theorem Ev.ldBA {t tb : TypeId} {bk i n : Nat} {cs : List Value} (ht : isAg P t n = true) (hx : Look e x (.pointer (some ⟨bk, 0, none⟩)) := by repeat (first | exact Look.here | apply Look.there (hne := rfl) | exact Look.const | apply Look.mix rfl | exact Look.arg0 | apply Look.args | exact Look.func)) (hH : At H i (.box bk tb cs) := by repeat (first | exact At.z | apply At.s)) (hn : cs.length = n := by rfl) : Ev P w0 Cs H e (.load t x) ty (.agg cs.toArray) :=
  Ev.ldA ht (Cells.boxed hH (fun j u hu => by simpa using hu)) hn hx
/-- A struct or an array within a variable of the call's own. -/
theorem Ev.ldBP {t tb : TypeId} {bk off i n : Nat} {cs : List Value} (ht : isAg P t n = true) (hx : Look e x (.pointer (some ⟨bk, off, none⟩)) := by repeat (first | exact Look.here | apply Look.there (hne := rfl) | exact Look.const | apply Look.mix rfl | exact Look.arg0 | apply Look.args | exact Look.func)) (hH : At H i (.box bk tb cs) := by repeat (first | exact At.z | apply At.s)) (hn : ((cs.drop off).take n).length = n := by rfl) : Ev P w0 Cs H e (.load t x) ty (.agg ((cs.drop off).take n).toArray) :=
  Ev.ldA ht (Cells.boxed hH (fun j u hu => by
    rw [List.getElem?_take] at hu
    split at hu
    · simpa using hu
    · cases hu)) hn hx
theorem RAt.cells {α : Type} [Inhabited α] {enc : α → List Value} {sz : Nat} {v : Value} {xs : List α} (hr : RAt w0 Cs H enc sz v xs) {i : Nat} (hi : i < xs.length) {off : Nat} {ds : List Value} (hd : ∀ j u, ds[j]? = some u → (enc xs[i]!)[off + j]? = some u) : Cells w0 Cs H (((sbase v).add (i * sz)).add off) ds := by
  intro w hw j u hu
  obtain ⟨Cs', hr⟩ := hr w hw
  have := (hr.cell i hi (off + j) u (hd j u hu)).1
  rw [Addr.add_add, Addr.add_add]
  first | exact this | (rw [Nat.add_assoc]; exact this)
/-- An element's field is read: 'hr' names the slice. -/
theorem Ev.ldE {α : Type} [Inhabited α] {enc : α → List Value} {sz : Nat} {s : Value} {xs : List α} {t : TypeId} {i off : Nat} {v : Value} (ht : isSc P t = true) (hx : Look e x (.pointer (some (((sbase s).add (i * sz)).add off))) := by repeat (first | exact Look.here | apply Look.there (hne := rfl) | exact Look.const | apply Look.mix rfl | exact Look.arg0 | apply Look.args | exact Look.func)) (hr : RAt w0 Cs H enc sz s xs)
    (hi : i < xs.length := by omega) (hv : (enc xs[i]!)[off]? = some v := by rfl) : Ev P w0 Cs H e (.load t x) ty v :=
  Ev.ldS ht (hr.cells hi (fun j u hu => by cases j with | zero => simp at hu; subst hu; simpa using hv | succ j => simp at hu)) hx
/-- An element that is one cell. -/
theorem Ev.ldE1 {α : Type} [Inhabited α] {enc : α → List Value} {sz : Nat} {s : Value} {xs : List α} {t : TypeId} {i : Nat} {v : Value} (ht : isSc P t = true) (hx : Look e x (.pointer (some ((sbase s).add (i * sz)))) := by repeat (first | exact Look.here | apply Look.there (hne := rfl) | exact Look.const | apply Look.mix rfl | exact Look.arg0 | apply Look.args | exact Look.func)) (hr : RAt w0 Cs H enc sz s xs)
    (hi : i < xs.length := by omega) (hv : (enc xs[i]!)[0]? = some v := by rfl) : Ev P w0 Cs H e (.load t x) ty v :=
  Ev.ldE ht (by rw [Addr.add_zero]; exact hx) hr hi hv
/-- A whole element. -/
theorem Ev.ldEA {α : Type} [Inhabited α] {enc : α → List Value} {sz : Nat} {s : Value} {xs : List α} {t : TypeId} {i : Nat} (ht : isAg P t sz = true) (hx : Look e x (.pointer (some ((sbase s).add (i * sz)))) := by repeat (first | exact Look.here | apply Look.there (hne := rfl) | exact Look.const | apply Look.mix rfl | exact Look.arg0 | apply Look.args | exact Look.func)) (hr : RAt w0 Cs H enc sz s xs)
    (hi : i < xs.length := by omega) : Ev P w0 Cs H e (.load t x) ty (.agg (enc xs[i]!).toArray) := by
  have hc : Cells w0 Cs H (((sbase s).add (i * sz)).add 0) (enc xs[i]!) := hr.cells hi (fun j u hu => by simpa using hu)
  rw [Addr.add_zero] at hc
  intro w hw
  obtain ⟨Cs', hr'⟩ := hr w hw
  have : xs[i]! ∈ xs := by rw [getElem!_pos xs i hi]; exact List.getElem_mem hi
  exact Ev.ldA ht hc (hr'.size _ this) hx w hw
theorem Ev.lenSl {α : Type} [Inhabited α] {enc : α → List Value} {sz m : Nat} {s : Value} {xs : List α} {t el : TypeId} (ht : slcOf P t el m = true) (hx : Look e x s := by repeat (first | exact Look.here | apply Look.there (hne := rfl) | exact Look.const | apply Look.mix rfl | exact Look.arg0 | apply Look.args | exact Look.func)) (hr : RAt w0 Cs H enc sz s xs) : Ev P w0 Cs H e (.call ⟨.builtin .len, #[x], #[t]⟩) ty (.int .i64 (xs.length : Int)) := by
  intro w hw d pos af g
  replace hx := hx.eq
  obtain ⟨Cs', hr⟩ := hr w hw
  obtain ⟨A, c, rfl, hc, hA⟩ := hr.shape
  simp [execOp, resolve, invoke, builtin, hx, Builtin.len_, run_underlying (slcOf_und ht).1, goInt]
theorem Ev.func {fn : Fn} {l m : List Operand} : Ev P w0 Cs H e (.makeFunc fn l.toArray m.toArray) ty (.func fn (l.map (ev e)).toArray (m.map (ev e)).toArray) := by
  intro w _ d pos af g
  simp [execOp, Instr.makeFunc]
end
end Go.Rx
