/- The rule layer, eighth part: structs and arrays of plain data held against each other. -/
import Derived.Test.YtcggppjpnepoiaaDoorRxFlow
import Derived.Laws.StructEq
namespace Go.Rx
open Go Go.RowKit
set_option linter.unusedVariables false
set_option linter.unusedSimpArgs false
def eqV : Value → Value → Bool
  | .int _ a, .int _ b => decide (a = b)
  | .bool a, .bool b => decide (a = b)
  | .string a, .string b => decide (a = b)
  | _, _ => false
def eqL : List Value → List Value → Bool
  | x :: xs, y :: ys => eqV x y && eqL xs ys
  | [], [] => true
  | _, _ => false
/-- A type of plain data: what its cells are. -/
inductive Sort1 where
  | int (k : IntKind) | bool | str
deriving DecidableEq
def sortsF (g : TypeId → Option (List Sort1)) : List Field → Nat → Option (List Sort1)
  | [], _ => some []
  | f :: fs, off =>
    match decide (f.name ≠ "_") && (f.offset == off), g f.type with
    | true, some l => match sortsF g fs (off + l.length) with
      | some r => some (l ++ r)
      | none => none
    | _, _ => none
def sorts (P : Program) : Nat → TypeId → Option (List Sort1)
  | 0, _ => none
  | d + 1, t =>
    match P.underlying t with
    | some (.int k) => if P.cellsOf t = 1 then some [.int k] else none
    | some .bool => if P.cellsOf t = 1 then some [.bool] else none
    | some .string => if P.cellsOf t = 1 then some [.str] else none
    | some (.struct fs) => match !P.stoodInHeld t, sortsF (sorts P d) fs.toList 0, P.info? t with
      | true, some l, some i => if i.size = l.length then some l else none
      | _, _, _ => none
    | some (.array len e) => match sorts P d e, P.info? e, P.info? t with
      | some l, some i, some j => if i.size = l.length ∧ j.size = len * l.length then some (List.replicate len l).flatten else none
      | _, _, _ => none
    | _ => none
def isSort : Sort1 → Value → Bool
  | .int k, .int j _ => decide (j = k)
  | .bool, .bool _ => true
  | .str, .string _ => true
  | _, _ => false
def areSorts : List Sort1 → List Value → Bool
  | s :: l, v :: vs => isSort s v && areSorts l vs
  | [], [] => true
  | _, _ => false
theorem areSorts_length {l : List Sort1} {vs : List Value} (h : areSorts l vs = true) : vs.length = l.length := by
  induction l generalizing vs with
  | nil => cases vs <;> simp_all [areSorts]
  | cons s l ih => cases vs with
    | nil => simp [areSorts] at h
    | cons v vs => simp [areSorts] at h; simp [ih h.2]
theorem areSorts_append {l r : List Sort1} {vs : List Value} (h : areSorts (l ++ r) vs = true) : areSorts l (vs.take l.length) = true ∧ areSorts r (vs.drop l.length) = true := by
  induction l generalizing vs with
  | nil => simpa [areSorts] using h
  | cons s l ih => cases vs with
    | nil => simp [areSorts] at h
    | cons v vs =>
      simp [areSorts] at h ⊢
      obtain ⟨h1, h2⟩ := ih h.2
      exact ⟨⟨h.1, h1⟩, h2⟩
theorem eqL_split : ∀ (n : Nat) (xs ys : List Value), n ≤ xs.length → n ≤ ys.length → eqL xs ys = (eqL (xs.take n) (ys.take n) && eqL (xs.drop n) (ys.drop n))
  | 0, xs, ys, _, _ => by simp [eqL]
  | n + 1, [], ys, h, _ => by simp at h
  | n + 1, x :: xs, [], _, h => by simp at h
  | n + 1, x :: xs, y :: ys, h1, h2 => by
    simp only [eqL, List.take_succ_cons, List.drop_succ_cons]
    rw [eqL_split n xs ys (by simpa using h1) (by simpa using h2), Bool.and_assoc]
/-- A value of a plain type, of its cells. -/
def mkV (P : Program) (t : TypeId) (cs : List Value) : Value := if isSc P t then cs.headD undef else .agg cs.toArray
section
variable {P : Program}
theorem sorts_und {d : Nat} {t : TypeId} {l : List Sort1} (h : sorts P d t = some l) : (isSc P t = true ∧ l.length = 1) ∨ (isSc P t = false ∧ isAg P t l.length = true) := by
  cases d with
  | zero => simp [sorts] at h
  | succ d =>
    unfold sorts at h
    unfold isSc isAg
    split at h
    · rename_i hu; simp at h; obtain ⟨hone, rfl⟩ := h; simp [hu]
    · rename_i hu; simp at h; obtain ⟨hone, rfl⟩ := h; simp [hu]
    · rename_i hu; simp at h; obtain ⟨hone, rfl⟩ := h; simp [hu]
    · rename_i hu
      split at h
      · rename_i i h1 h2 h3
        split at h
        · rename_i hs
          simp at h
          subst h
          right
          simp [hu, h3, hs]
        · cases h
      · cases h
    · rename_i hu
      split at h
      · rename_i l' i j h1 h2 h3
        split at h
        · rename_i hs
          simp at h
          subst h
          right
          simp [hu, h3, hs]
        · cases h
      · cases h
    · cases h
theorem sorts_cells {d : Nat} {t : TypeId} {l : List Sort1} (h : sorts P d t = some l) : P.cellsOf t = l.length := by
  cases d with
  | zero => simp [sorts] at h
  | succ d =>
    unfold sorts at h
    split at h
    · simp at h; obtain ⟨hone, rfl⟩ := h; exact hone
    · simp at h; obtain ⟨hone, rfl⟩ := h; exact hone
    · simp at h; obtain ⟨hone, rfl⟩ := h; exact hone
    · split at h
      · rename_i i h1 h2 h3
        split at h
        · rename_i hs
          simp at h
          subst h
          simp [Program.cellsOf, h3, hs]
        · cases h
      · cases h
    · split at h
      · rename_i l' i j h1 h2 h3
        split at h
        · rename_i hs
          simp at h
          subst h
          simp [Program.cellsOf, h3, hs]
        · cases h
      · cases h
    · cases h
theorem run_part_mk {d : Nat} {t : TypeId} {l : List Sort1} (h : sorts P d t = some l) {cs : List Value} {off : Nat} (hl : off + l.length ≤ cs.length) (w : World) : (Go.part t cs.toArray off).run P w = .ok (mkV P t ((cs.drop off).take l.length)) w := by
  rcases sorts_und h with ⟨h1, h2⟩ | ⟨h1, h2⟩
  · have hlt : off < cs.length := by omega
    rw [run_part_sc h1 (cs := cs) (off := off) (v := cs[off]) (by simp [hlt])]
    simp only [mkV, h1, if_true, h2]
    congr 1
    have : cs.drop off = cs[off] :: cs.drop (off + 1) := by rw [List.drop_eq_getElem_cons hlt]
    rw [this]
    rfl
  · rw [run_part_ag h2]
    simp [mkV, h1]
theorem eqFields_run (d : Nat) {D : Nat} (g : ∀ t l, sorts P d t = some l → ∀ xs ys, areSorts l xs = true → areSorts l ys = true → ∀ w, (Op.equalIn D t (mkV P t xs) (mkV P t ys)).run P w = .ok (eqL xs ys) w) :
    ∀ (fs : List Field) (off : Nat) (l : List Sort1), sortsF (sorts P d) fs off = some l → ∀ xs ys : List Value, areSorts l (xs.drop off) = true → areSorts l (ys.drop off) = true → off ≤ xs.length → off ≤ ys.length →
      ∀ w, (Op.eqFields D xs.toArray ys.toArray fs).run P w = .ok (eqL (xs.drop off) (ys.drop off)) w
  | [], off, l, h, xs, ys, hx, hy, ox, oy, w => by
    simp [sortsF] at h
    subst h
    have h1 := areSorts_length hx
    have h2 := areSorts_length hy
    have e1 : xs.drop off = [] := List.eq_nil_of_length_eq_zero h1
    have e2 : ys.drop off = [] := List.eq_nil_of_length_eq_zero h2
    rw [e1, e2]
    simp [Op.eqFields, eqL]
  | f :: fs, off, l, h, xs, ys, hx, hy, ox, oy, w => by
    unfold sortsF at h
    split at h
    · rename_i l1 hc hl1
      split at h
      · rename_i r hr
        simp at h
        subst h
        simp only [Bool.and_eq_true, decide_eq_true_eq, beq_iff_eq] at hc
        obtain ⟨hname, hoff⟩ := hc
        have lx := areSorts_length hx
        have ly := areSorts_length hy
        simp only [List.length_drop, List.length_append] at lx ly
        have bx : off + l1.length ≤ xs.length := by omega
        have by' : off + l1.length ≤ ys.length := by omega
        obtain ⟨hx1, hx2⟩ := areSorts_append hx
        obtain ⟨hy1, hy2⟩ := areSorts_append hy
        have hd : ∀ zs : List Value, (zs.drop off).drop l1.length = zs.drop (off + l1.length) := fun zs => by rw [List.drop_drop]
        rw [hd] at hx2 hy2
        have ih := eqFields_run d g fs (off + l1.length) r hr xs ys hx2 hy2 bx by' w
        have he := g f.type l1 hl1 _ _ hx1 hy1 w
        have hsplit := eqL_split l1.length (xs.drop off) (ys.drop off) (by simp; omega) (by simp; omega)
        rw [hd, hd] at hsplit
        rw [hsplit]
        unfold Op.eqFields
        rw [if_pos hname, hoff]
        simp only [Sem.run_bind, run_part_mk hl1 bx, run_part_mk hl1 by', Result.andThen_ok, he]
        cases hb : eqL ((xs.drop off).take l1.length) ((ys.drop off).take l1.length) with
        | false => simp
        | true => simp [ih]
      · cases h
    · cases h
theorem eqArr_run {D : Nat} {el : TypeId} {l : List Sort1} {len : Nat} {w : World} (g : ∀ xs ys, areSorts l xs = true → areSorts l ys = true → (Op.equalIn D el (mkV P el xs) (mkV P el ys)).run P w = .ok (eqL xs ys) w)
    {d : Nat} (hs : sorts P d el = some l) : ∀ (m k : Nat) (xs ys : List Value), k + m = len → areSorts (List.replicate m l).flatten (xs.drop (k * l.length)) = true → areSorts (List.replicate m l).flatten (ys.drop (k * l.length)) = true → k * l.length ≤ xs.length → k * l.length ≤ ys.length →
      (forIn (m := Sem) (List.range' k m) ((none, ()) : Option Bool × Unit) (fun i r => do
        let b ← Op.equalIn D el (← Go.part el xs.toArray (i * l.length)) (← Go.part el ys.toArray (i * l.length))
        if (!b) = true then pure (ForInStep.done (some false, ())) else pure (ForInStep.yield (none, ())))).run P w = .ok (if eqL (xs.drop (k * l.length)) (ys.drop (k * l.length)) then (none, ()) else (some false, ())) w
  | 0, k, xs, ys, hk, hx, hy, bx, by' => by
    have h1 := areSorts_length hx
    have h2 := areSorts_length hy
    have e1 : xs.drop (k * l.length) = [] := List.eq_nil_of_length_eq_zero (by simpa using h1)
    have e2 : ys.drop (k * l.length) = [] := List.eq_nil_of_length_eq_zero (by simpa using h2)
    rw [e1, e2]
    simp [eqL]
  | m + 1, k, xs, ys, hk, hx, hy, bx, by' => by
    rw [List.replicate_succ, List.flatten_cons] at hx hy
    have lx := areSorts_length hx
    have ly := areSorts_length hy
    simp only [List.length_drop, List.length_append] at lx ly
    obtain ⟨hx1, hx2⟩ := areSorts_append hx
    obtain ⟨hy1, hy2⟩ := areSorts_append hy
    have hd : ∀ zs : List Value, (zs.drop (k * l.length)).drop l.length = zs.drop ((k + 1) * l.length) := fun zs => by rw [List.drop_drop, Nat.add_mul, Nat.one_mul]
    rw [hd] at hx2 hy2
    have e1 : (k + 1) * l.length = k * l.length + l.length := by rw [Nat.add_mul, Nat.one_mul]
    have ih := eqArr_run (len := len) g hs m (k + 1) xs ys (by omega) hx2 hy2 (by omega) (by omega)
    have he := g _ _ hx1 hy1
    have hsplit := eqL_split l.length (xs.drop (k * l.length)) (ys.drop (k * l.length)) (by simp; omega) (by simp; omega)
    rw [hd, hd] at hsplit
    rw [hsplit, List.range'_succ]
    simp only [List.forIn_cons, Sem.run_bind, run_part_mk hs (show k * l.length + l.length ≤ xs.length by omega), run_part_mk hs (show k * l.length + l.length ≤ ys.length by omega), Result.andThen_ok, he]
    cases hb : eqL ((xs.drop (k * l.length)).take l.length) ((ys.drop (k * l.length)).take l.length) with
    | false => simp
    | true =>
      simp only [Bool.not_true, Bool.false_eq_true, if_false, Sem.run_pure, Result.andThen_ok, Bool.true_and]
      exact ih
theorem sorts_run : ∀ (d : Nat) (t : TypeId) (l : List Sort1), sorts P d t = some l → ∀ D, d ≤ D → ∀ xs ys, areSorts l xs = true → areSorts l ys = true → ∀ w, (Op.equalIn D t (mkV P t xs) (mkV P t ys)).run P w = .ok (eqL xs ys) w
  | 0, t, l, h, D, hD, xs, ys, hx, hy, w => by simp [sorts] at h
  | d + 1, t, l, h, D, hD, xs, ys, hx, hy, w => by
    obtain ⟨D, rfl⟩ : ∃ k, D = k + 1 := ⟨D - 1, by omega⟩
    have hs := h
    unfold sorts at h
    split at h
    · rename_i k hu
      simp at h
      obtain ⟨hone, rfl⟩ := h
      have hsc : isSc P t = true := by simp [isSc, hu]
      obtain ⟨x, rfl⟩ := List.length_eq_one_iff.1 (areSorts_length hx)
      obtain ⟨y, rfl⟩ := List.length_eq_one_iff.1 (areSorts_length hy)
      · cases x <;> simp [areSorts, isSort] at hx
        cases y <;> simp [areSorts, isSort] at hy
        subst hx hy
        simp only [mkV, hsc, if_true, List.headD]
        rw [run_equalIn_int w D t _ _ _ _ hu]
        simp only [eqL, eqV, Bool.and_true]
        rfl
    · rename_i hu
      simp at h
      obtain ⟨hone, rfl⟩ := h
      have hsc : isSc P t = true := by simp [isSc, hu]
      obtain ⟨x, rfl⟩ := List.length_eq_one_iff.1 (areSorts_length hx)
      obtain ⟨y, rfl⟩ := List.length_eq_one_iff.1 (areSorts_length hy)
      · cases x <;> simp [areSorts, isSort] at hx
        cases y <;> simp [areSorts, isSort] at hy
        simp only [mkV, hsc, if_true, List.headD]
        rw [run_equalIn_bool' w D t _ _ hu]
        simp only [eqL, eqV, Bool.and_true]
        rfl
    · rename_i hu
      simp at h
      obtain ⟨hone, rfl⟩ := h
      have hsc : isSc P t = true := by simp [isSc, hu]
      obtain ⟨x, rfl⟩ := List.length_eq_one_iff.1 (areSorts_length hx)
      obtain ⟨y, rfl⟩ := List.length_eq_one_iff.1 (areSorts_length hy)
      · cases x <;> simp [areSorts, isSort] at hx
        cases y <;> simp [areSorts, isSort] at hy
        simp only [mkV, hsc, if_true, List.headD]
        rw [run_equalIn_string w D t _ _ hu, byteArray_beq]
        simp only [eqL, eqV, Bool.and_true]
    · rename_i fs hu
      split at h
      · rename_i l' i h1 h2 h3
        split at h
        · rename_i hsz
          simp at h
          subst h
          have hsc : isSc P t = false := by simp [isSc, hu]
          have hfo : P.fieldsOf t = fs := by simp [Program.fieldsOf, hu]
          simp only [mkV, hsc, Bool.false_eq_true, if_false]
          rw [run_equalIn_struct w D t _ _ (by rw [hfo]; exact hu) (by simpa using h1), hfo]
          have := eqFields_run d (D := D) (fun t l ht xs ys hx hy w => sorts_run d t l ht D (by omega) xs ys hx hy w) fs.toList 0 l' h2 xs ys (by simpa using hx) (by simpa using hy) (by omega) (by omega) w
          simpa using this
        · cases h
      · cases h
    · rename_i len el hu
      split at h
      · rename_i l' i j h1 h2 h3
        split at h
        · rename_i hsz
          simp at h
          subst h
          have hsc : isSc P t = false := by simp [isSc, hu]
          simp only [mkV, hsc, Bool.false_eq_true, if_false]
          have key := eqArr_run (len := len) (w := w) (fun xs ys hx hy => sorts_run d el l' h1 D (by omega) xs ys hx hy w) h1 len 0 xs ys (by omega) (by simpa using hx) (by simpa using hy) (by omega) (by omega)
          have hsize : (sizeOf el).run P w = .ok l'.length w := by simp [sizeOf, typeInfo, h2, hsz.1]
          simp only [Op.equalIn, Sem.run_bind, run_underlying hu, Result.andThen_ok, hsize, Std.Legacy.Range.forIn_eq_forIn_range', Std.Legacy.Range.size]
          simp only [Nat.sub_zero, Nat.add_sub_cancel, Nat.div_one] at key ⊢
          simp only [Nat.zero_mul, List.drop_zero] at key
          rw [key]
          cases eqL xs ys <;> rfl
        · cases h
      · cases h
    · cases h
theorem mkV_ag {d : Nat} {t : TypeId} {l : List Sort1} (h : sorts P d t = some l) (hag : isAg P t l.length = true) (cs : List Value) : mkV P t cs = .agg cs.toArray := by
  have : isSc P t = false := by
    unfold isAg at hag
    unfold isSc
    simp only [Bool.and_eq_true] at hag
    have h1 := hag.1
    split at h1 <;> simp_all
  simp [mkV, this]
theorem equal_ag {t : TypeId} {l : List Sort1} (h : sorts P 20 t = some l) (hag : isAg P t l.length = true) {xs ys : List Value} (hx : areSorts l xs = true) (hy : areSorts l ys = true) (w : World) : (Op.equal t (.agg xs.toArray) (.agg ys.toArray)).run P w = .ok (eqL xs ys) w := by
  have := sorts_run 20 t l h Op.maxDepth (by simp [Op.maxDepth]) xs ys hx hy w
  rwa [mkV_ag h hag, mkV_ag h hag] at this
variable {w0 : World} {Cs H : List Chunk} {e : Env} {ty tx ty' : TypeId} {x y : Operand}
/-- '==' on structs or arrays of plain data. -/
theorem Ev.eqAg {l : List Sort1} {xs ys : List Value} (h : sorts P 20 tx = some l) (hag : isAg P tx l.length = true) (hgd : P.eqGuardType P.depth tx = false) (hx : Look e x (.agg xs.toArray) := by repeat (first | exact Look.here | apply Look.there (hne := rfl) | exact Look.const | apply Look.mix rfl | exact Look.arg0 | apply Look.args | exact Look.func)) (hy : Look e y (.agg ys.toArray) := by repeat (first | exact Look.here | apply Look.there (hne := rfl) | exact Look.const | apply Look.mix rfl | exact Look.arg0 | apply Look.args | exact Look.func))
    (sx : areSorts l xs = true := by rfl) (sy : areSorts l ys = true := by rfl) : Ev P w0 Cs H e (.binOp .eql tx x y ty') ty (.bool (eqL xs ys)) := by
  intro w _ d pos af g
  replace hx := hx.eq
  replace hy := hy.eq
  simp only [execOp, hx, hy, Sem.run_bind, run_eqGuard_agg w _ _ _ _ _ _ hgd, Result.andThen_ok, binOp]
  have := equal_ag h hag sx sy w
  simp only [Sem.run_bind, this, Result.andThen_ok, Sem.run_pure]
theorem Ev.neAg {l : List Sort1} {xs ys : List Value} (h : sorts P 20 tx = some l) (hag : isAg P tx l.length = true) (hgd : P.eqGuardType P.depth tx = false) (hx : Look e x (.agg xs.toArray) := by repeat (first | exact Look.here | apply Look.there (hne := rfl) | exact Look.const | apply Look.mix rfl | exact Look.arg0 | apply Look.args | exact Look.func)) (hy : Look e y (.agg ys.toArray) := by repeat (first | exact Look.here | apply Look.there (hne := rfl) | exact Look.const | apply Look.mix rfl | exact Look.arg0 | apply Look.args | exact Look.func))
    (sx : areSorts l xs = true := by rfl) (sy : areSorts l ys = true := by rfl) : Ev P w0 Cs H e (.binOp .neq tx x y ty') ty (.bool (!(eqL xs ys))) := by
  intro w _ d pos af g
  replace hx := hx.eq
  replace hy := hy.eq
  simp only [execOp, hx, hy, Sem.run_bind, run_eqGuard_agg w _ _ _ _ _ _ hgd, Result.andThen_ok, binOp]
  have := equal_ag h hag sx sy w
  simp only [Sem.run_bind, this, Result.andThen_ok, Sem.run_pure]
end
end Go.Rx
