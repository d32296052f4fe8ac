/- The rule layer, third part: single operations. -/
import Derived.Test.YtcggppjpnepoiaaDoorRxRules
namespace Go.Rx
open Go Go.RowKit
set_option linter.unusedVariables false
set_option linter.unusedSimpArgs false

/-! ### looking up a slot -/
structure Look (e : Env) (x : Operand) (v : Value) : Prop where
  eq : ev e x = v
theorem Look.const {e : Env} {v : Value} : Look e (.const v) v := ⟨rfl⟩
theorem Look.func {e : Env} {f : FuncId} : Look e (.func f) (.func (.func f) #[] #[]) := ⟨rfl⟩
theorem Look.here {e : Env} {t : Nat} {v : Value} : Look (upd e t v) (.tmp t) v := ⟨upd_same e t v⟩
theorem Look.there {e : Env} {t j : Nat} {v u : Value} (h : Look e (.tmp j) v) (hne : Nat.beq j t = false) : Look (upd e t u) (.tmp j) v := by
  refine ⟨?_⟩
  show upd e t u j = v
  unfold upd
  rw [hne]
  exact h.eq
theorem Look.mix {D : List Nat} {u e0 : Env} {j : Nat} {v : Value} (hD : D.elem j = false) (h : Look e0 (.tmp j) v) : Look (mix D u e0) (.tmp j) v := by
  refine ⟨?_⟩
  show Rx.mix D u e0 j = v
  unfold Rx.mix
  rw [hD]
  exact h.eq
theorem Look.set0 {e : Env} {t : Nat} {v : Value} {l : List (Nat × Value)} : Look (setL e ((t, v) :: l)) (.tmp t) v := ⟨upd_same _ t v⟩
theorem Look.setS {e : Env} {t j : Nat} {v u : Value} {l : List (Nat × Value)} (h : Look (setL e l) (.tmp j) v) (hne : Nat.beq j t = false) : Look (setL e ((t, u) :: l)) (.tmp j) v := Look.there h hne
theorem Look.setN {e : Env} {j : Nat} {v : Value} (h : Look e (.tmp j) v) : Look (setL e []) (.tmp j) v := h
theorem Look.arg0 {v : Value} {l : List Value} : Look (env0 (v :: l)) (.tmp 0) v := ⟨rfl⟩
theorem Look.args {u v : Value} {l : List Value} {j : Nat} (h : Look (env0 l) (.tmp j) v) : Look (env0 (u :: l)) (.tmp (j + 1)) v := ⟨h.eq⟩

/-! ### loops: a frame known at some slots over another one -/
structure Off (D : List Nat) (e e0 : Env) : Prop where
  eq : ∀ j, D.elem j = false → e j = e0 j
theorem Off.refl {D : List Nat} {e : Env} : Off D e e := ⟨fun _ _ => rfl⟩
theorem Off.mix {D : List Nat} {u e : Env} : Off D (Rx.mix D u e) e := ⟨fun j hj => by simp only [Rx.mix, hj]⟩
theorem Off.upd {D : List Nat} {e e0 : Env} {t : Nat} {v : Value} (h : Off D e e0) (ht : D.elem t = true) : Off D (upd e t v) e0 := by
  refine ⟨fun j hj => ?_⟩
  rw [upd_ne]
  · exact h.eq j hj
  · rintro rfl
    rw [ht] at hj
    cases hj
theorem Off.mix2 {D D' : List Nat} {u e e0 : Env} (h : Off D e e0) (hs : (D'.all fun j => D.elem j) = true) : Off D (Rx.mix D' u e) e0 := by
  refine ⟨fun j hj => ?_⟩
  unfold Rx.mix
  cases hj2 : D'.elem j with
  | false => exact h.eq j hj
  | true =>
    have := List.all_eq_true.1 hs j (by simpa using hj2)
    rw [hj] at this
    cases this
theorem Off.setC {D : List Nat} {e e0 : Env} {t : Nat} {v : Value} {l : List (Nat × Value)} (h : Off D (setL e l) e0) (ht : D.elem t = true) : Off D (setL e ((t, v) :: l)) e0 := Off.upd h ht
theorem Off.setN {D : List Nat} {e e0 : Env} (h : Off D e e0) : Off D (setL e []) e0 := h
/-- 'e is e0, but for the slots of D; the slots of l hold what l says'. -/
def Has (D : List Nat) (l : List (Nat × Value)) (e0 e : Env) : Prop := ∃ u, e = setL (Rx.mix D u e0) l
theorem Has.mk {D : List Nat} {l : List (Nat × Value)} {e0 e : Env} (h : Off D e e0) (hl : ∀ p ∈ l, Look e (.tmp p.1) p.2) : Has D l e0 e := by
  refine ⟨e, ?_⟩
  have h1 : Rx.mix D e e0 = e := by
    funext j
    unfold Rx.mix
    cases hj : D.elem j with
    | true => rfl
    | false => exact (h.eq j hj).symm
  rw [h1]
  induction l with
  | nil => rfl
  | cons p l ih =>
    obtain ⟨t, v⟩ := p
    have ih' := ih (fun q hq => hl q (List.mem_cons_of_mem _ hq))
    show e = upd (setL e l) t v
    rw [← ih']
    funext j
    by_cases hj : j = t
    · subst hj
      rw [upd_same]
      exact (hl (j, v) (List.mem_cons_self ..)).eq
    · rw [upd_ne _ _ hj]
theorem allLook_nil {e : Env} : ∀ p ∈ ([] : List (Nat × Value)), Look e (.tmp p.1) p.2 := by simp
theorem allLook_cons {e : Env} {t : Nat} {v : Value} {l : List (Nat × Value)} (h : Look e (.tmp t) v) (hl : ∀ p ∈ l, Look e (.tmp p.1) p.2) : ∀ p ∈ (t, v) :: l, Look e (.tmp p.1) p.2 := by
  intro p hp
  rcases List.mem_cons.1 hp with rfl | hp
  · exact h
  · exact hl p hp

/-! ### facts of types, as computed words -/
def isSc (P : Program) (t : TypeId) : Bool := match P.underlying t with | some (.struct _) | some (.array ..) | none => false | _ => true
def isAg (P : Program) (t : TypeId) (n : Nat) : Bool := (match P.underlying t with | some (.struct _) | some (.array ..) => true | _ => false) && (match P.info? t with | some i => i.size == n | none => false)
def szOf (P : Program) (t : TypeId) (n : Nat) : Bool := match P.info? t with | some i => i.size == n | none => false
def fldOf (P : Program) (s : TypeId) (f off : Nat) (ft : TypeId) (n : Nat) : Bool := match P.underlying s with | some (.struct fs) => (match fs[f]? with | some x => x.offset == off && x.type == ft && szOf P ft n && decide (n ≠ 0) | none => false) | _ => false
def slcOf (P : Program) (s : TypeId) (el : TypeId) (n : Nat) : Bool := (match P.underlying s with | some (.slice x) => x == el | _ => false) && szOf P el n
def arrOf (P : Program) (s : TypeId) (len : Nat) (el : TypeId) (n : Nat) : Bool := (match P.underlying s with | some (.array m x) => m == len && x == el | _ => false) && szOf P el n
def intOfT (P : Program) (t : TypeId) (k : IntKind) : Bool := match P.underlying t with | some (.int j) => j == k | _ => false
def isStr (P : Program) (t : TypeId) : Bool := match P.underlying t with | some .string => true | _ => false
def isBoolT (P : Program) (t : TypeId) : Bool := match P.underlying t with | some .bool => true | _ => false
theorem isSc_run {P : Program} {t : TypeId} (h : isSc P t = true) (w : World) : (isAgg t).run P w = .ok false w := by
  unfold isSc at h
  unfold isAgg underlying
  cases hu : P.underlying t with
  | none => simp [hu] at h
  | some d => cases d <;> simp_all
theorem szOf_run {P : Program} {t : TypeId} {n : Nat} (h : szOf P t n = true) (w : World) : (sizeOf t).run P w = .ok n w := by
  unfold szOf at h
  unfold sizeOf typeInfo
  cases hu : P.info? t with
  | none => simp [hu] at h
  | some d => simp_all
theorem isAg_run {P : Program} {t : TypeId} {n : Nat} (h : isAg P t n = true) (w : World) : (isAgg t).run P w = .ok true w ∧ (sizeOf t).run P w = .ok n w := by
  unfold isAg at h
  simp only [Bool.and_eq_true] at h
  refine ⟨?_, szOf_run h.2 w⟩
  have h1 := h.1
  unfold isAgg underlying
  cases hu : P.underlying t with
  | none => simp [hu] at h1
  | some d => cases d <;> simp_all
theorem fldOf_run {P : Program} {s ft : TypeId} {f off n : Nat} (h : fldOf P s f off ft n = true) (ad : Addr) (w : World) : (Instr.fieldAt s (.pointer (some ad)) f).run P w = .ok (.pointer (some (ad.add off))) w := by
  unfold fldOf at h
  split at h
  · rename_i fs hs
    split at h
    · rename_i x hx
      simp only [Bool.and_eq_true, beq_iff_eq, decide_eq_true_eq] at h
      obtain ⟨⟨⟨rfl, rfl⟩, hz⟩, hn⟩ := h
      simp [Instr.fieldAt, run_underlying hs, hx, Instr.sureAddr, fieldPlace, szOf_run hz, hn]
    · cases h
  · cases h
theorem slcOf_und {P : Program} {s el : TypeId} {n : Nat} (h : slcOf P s el n = true) : P.underlying s = some (.slice el) ∧ szOf P el n = true := by
  unfold slcOf at h
  simp only [Bool.and_eq_true] at h
  refine ⟨?_, h.2⟩
  have h1 := h.1
  split at h1
  · rename_i x hx; rw [hx]; simp at h1; rw [h1]
  · cases h1
theorem arrOf_und {P : Program} {s el : TypeId} {n len : Nat} (h : arrOf P s len el n = true) : P.underlying s = some (.array len el) ∧ szOf P el n = true := by
  unfold arrOf at h
  simp only [Bool.and_eq_true] at h
  refine ⟨?_, h.2⟩
  have h1 := h.1
  split at h1
  · rename_i m x hx; rw [hx]; simp at h1; rw [h1.1, h1.2]
  · cases h1
theorem intOfT_und {P : Program} {t : TypeId} {k : IntKind} (h : intOfT P t k = true) : P.underlying t = some (.int k) := by
  unfold intOfT at h
  split at h
  · rename_i j hx; rw [hx]; simp at h; rw [h]
  · cases h
theorem isStr_und {P : Program} {t : TypeId} (h : isStr P t = true) : P.underlying t = some .string := by
  unfold isStr at h
  split at h
  · assumption
  · cases h
theorem isBoolT_und {P : Program} {t : TypeId} (h : isBoolT P t = true) : P.underlying t = some .bool := by
  unfold isBoolT at h
  split at h
  · assumption
  · cases h

/-! ### memory that is only read -/
def Cell (w : World) (Cs : List Chunk) (a : Addr) (v : Value) : Prop := w.cell? a = some v ∧ ∀ c ∈ Cs, ¬ c.fp a.block
theorem Cell.up {w0 w : World} {Cs H : List Chunk} {a : Addr} {v : Value} (h : Cell w0 Cs a v) (hw : Upd w0 w Cs H) : w.cell? a = some v :=
  (World.cell?_of_block (hw.keep a.block (World.block_lt_of_cell? w0 a h.1) h.2)).trans h.1
theorem Cell.at_ {w0 w : World} {Cs H : List Chunk} {a : Addr} {v : Value} (h : Cell w0 Cs a v) (hw : Upd w0 w Cs H) : Cell w H a v := by
  refine ⟨h.up hw, fun c hc hfp => ?_⟩
  rcases hw.fresh c hc _ hfp with ⟨d, hd, hdf⟩ | hge
  · exact h.2 d hd hdf
  · have := World.block_lt_of_cell? w0 a h.1
    omega
theorem Cell.part {w : World} {H H' : List Chunk} {a : Addr} {v : Value} (h : Cell w H a v) (hp : Part H' H) : Cell w H' a v :=
  ⟨h.1, fun c hc => h.2 c (hp.mem hc)⟩
def sbase : Value → Addr
  | .slice (some a) _ _ => a
  | _ => default
/-- A slice that is only read: its elements x as the cells enc x, 'sz' of them each. -/
structure RSl {α : Type} [Inhabited α] (enc : α → List Value) (sz : Nat) (w : World) (Cs : List Chunk) (v : Value) (xs : List α) : Prop where
  shape : ∃ A c, v = .slice A xs.length c ∧ xs.length ≤ c ∧ (A = none → xs = [])
  small : xs.length ≤ 4611686018427387904
  size : ∀ x ∈ xs, (enc x).length = sz
  cell : ∀ i, i < xs.length → ∀ j u, (enc xs[i]!)[j]? = some u → Cell w Cs ((sbase v).add (i * sz + j)) u
theorem RSl.at_ {α : Type} [Inhabited α] {enc : α → List Value} {sz : Nat} {w0 w : World} {Cs H : List Chunk} {v : Value} {xs : List α} (h : RSl enc sz w0 Cs v xs) (hw : Upd w0 w Cs H) : RSl enc sz w H v xs :=
  ⟨h.shape, h.small, h.size, fun i hi j u hu => (h.cell i hi j u hu).at_ hw⟩
theorem RSl.part {α : Type} [Inhabited α] {enc : α → List Value} {sz : Nat} {w : World} {H H' : List Chunk} {v : Value} {xs : List α} (h : RSl enc sz w H v xs) (hp : Part H' H) : RSl enc sz w H' v xs :=
  ⟨h.shape, h.small, h.size, fun i hi j u hu => (h.cell i hi j u hu).part hp⟩
theorem RSl.up {α : Type} [Inhabited α] {enc : α → List Value} {sz : Nat} {w0 w : World} {Cs H : List Chunk} {v : Value} {xs : List α} (h : RSl enc sz w0 Cs v xs) (hw : Upd w0 w Cs H) : RSl enc sz w [] v xs :=
  (h.at_ hw).part (Part.nil _)
theorem Addr.add_add (a : Addr) (m n : Nat) : (a.add m).add n = a.add (m + n) := by
  unfold Addr.add
  by_cases hm : m = 0 <;> by_cases hn : n = 0 <;> simp [hm, hn, Nat.add_assoc]
theorem Addr.add_zero (a : Addr) : a.add 0 = a := by simp [Addr.add]

section
variable {P : Program} {w0 : World} {Cs H : List Chunk} {e : Env} {ty : TypeId} {x y : Operand}

/-! ### numbers -/
theorem Ev.move {v : Value} (hx : Look e x v := by repeat (first | exact Look.here | apply Look.there (hne := rfl) | exact Look.const | apply Look.mix rfl | exact Look.arg0 | apply Look.args | exact Look.func)) : Ev P w0 Cs H e (.move x) ty v := by
  intro w _ d pos af g
  replace hx := hx.eq
  simp only [execOp]
  rw [hx]; rfl
theorem Ev.assign {v : Value} (hx : Look e x v := by repeat (first | exact Look.here | apply Look.there (hne := rfl) | exact Look.const | apply Look.mix rfl | exact Look.arg0 | apply Look.args | exact Look.func)) : Ev P w0 Cs H e (.assign x) ty v := by
  intro w _ d pos af g
  replace hx := hx.eq
  simp only [execOp]
  rw [hx]; rfl
theorem Ev.pick {c : Operand} {b : Bool} {v u : Value} (hc : Look e c (.bool b) := by repeat (first | exact Look.here | apply Look.there (hne := rfl) | exact Look.const | apply Look.mix rfl | exact Look.arg0 | apply Look.args | exact Look.func)) (hx : Look e x v := by repeat (first | exact Look.here | apply Look.there (hne := rfl) | exact Look.const | apply Look.mix rfl | exact Look.arg0 | apply Look.args | exact Look.func)) (hy : Look e y u := by repeat (first | exact Look.here | apply Look.there (hne := rfl) | exact Look.const | apply Look.mix rfl | exact Look.arg0 | apply Look.args | exact Look.func)) :
    Ev P w0 Cs H e (.pick c x y) ty (if b then v else u) := by
  intro w _ d pos af g
  replace hc := hc.eq
  replace hx := hx.eq
  replace hy := hy.eq
  simp [execOp, hc, hx, hy, asBool]
theorem Ev.pickT {c : Operand} {v : Value} (hc : Look e c (.bool true) := by repeat (first | exact Look.here | apply Look.there (hne := rfl) | exact Look.const | apply Look.mix rfl | exact Look.arg0 | apply Look.args | exact Look.func)) (hx : Look e x v := by repeat (first | exact Look.here | apply Look.there (hne := rfl) | exact Look.const | apply Look.mix rfl | exact Look.arg0 | apply Look.args | exact Look.func)) : Ev P w0 Cs H e (.pick c x y) ty v := by
  intro w _ d pos af g
  replace hc := hc.eq
  replace hx := hx.eq
  simp [execOp, hc, hx, asBool]
theorem Ev.pickF {c : Operand} {v : Value} (hc : Look e c (.bool false) := by repeat (first | exact Look.here | apply Look.there (hne := rfl) | exact Look.const | apply Look.mix rfl | exact Look.arg0 | apply Look.args | exact Look.func)) (hy : Look e y v := by repeat (first | exact Look.here | apply Look.there (hne := rfl) | exact Look.const | apply Look.mix rfl | exact Look.arg0 | apply Look.args | exact Look.func)) : Ev P w0 Cs H e (.pick c x y) ty v := by
  intro w _ d pos af g
  replace hc := hc.eq
  replace hy := hy.eq
  simp [execOp, hc, hy, asBool]
/-- 'a || b', 'a && b' -/
theorem Ev.orB {c : Operand} {a b : Bool} (hc : Look e c (.bool a) := by repeat (first | exact Look.here | apply Look.there (hne := rfl) | exact Look.const | apply Look.mix rfl | exact Look.arg0 | apply Look.args | exact Look.func)) (hy : Look e y (.bool b) := by repeat (first | exact Look.here | apply Look.there (hne := rfl) | exact Look.const | apply Look.mix rfl | exact Look.arg0 | apply Look.args | exact Look.func)) : Ev P w0 Cs H e (.pick c (.const (.bool true)) y) ty (.bool (a || b)) := by
  intro w _ d pos af g
  replace hc := hc.eq
  replace hy := hy.eq
  have hk : ev e (.const (.bool true)) = .bool true := rfl
  cases a <;> simp [execOp, hc, hy, asBool, hk]
theorem Ev.andB {c : Operand} {a b : Bool} (hc : Look e c (.bool a) := by repeat (first | exact Look.here | apply Look.there (hne := rfl) | exact Look.const | apply Look.mix rfl | exact Look.arg0 | apply Look.args | exact Look.func)) (hx : Look e x (.bool b) := by repeat (first | exact Look.here | apply Look.there (hne := rfl) | exact Look.const | apply Look.mix rfl | exact Look.arg0 | apply Look.args | exact Look.func)) : Ev P w0 Cs H e (.pick c x (.const (.bool false))) ty (.bool (a && b)) := by
  intro w _ d pos af g
  replace hc := hc.eq
  replace hx := hx.eq
  have hk : ev e (.const (.bool false)) = .bool false := rfl
  cases a <;> simp [execOp, hc, hx, asBool, hk]
section
variable {tx ty' : TypeId} {k : IntKind} {a b : Int}
theorem eqGuard_int (op : BinOp) (t : TypeId) (w : World) : (eqGuard op t x y (.int k a) (.int k b)).run P w = .ok () w := by
  unfold eqGuard
  cases op <;> simp
theorem Ev.addW (hx : Look e x (.int k a) := by repeat (first | exact Look.here | apply Look.there (hne := rfl) | exact Look.const | apply Look.mix rfl | exact Look.arg0 | apply Look.args | exact Look.func)) (hy : Look e y (.int k b) := by repeat (first | exact Look.here | apply Look.there (hne := rfl) | exact Look.const | apply Look.mix rfl | exact Look.arg0 | apply Look.args | exact Look.func)) : Ev P w0 Cs H e (.binOp .add tx x y ty') ty (.int k (k.wrap (a + b))) := by
  intro w _ d pos af g
  replace hx := hx.eq
  replace hy := hy.eq
  simp [execOp, hx, hy, eqGuard_int, binOp, Op.intArith]
theorem Ev.subW (hx : Look e x (.int k a) := by repeat (first | exact Look.here | apply Look.there (hne := rfl) | exact Look.const | apply Look.mix rfl | exact Look.arg0 | apply Look.args | exact Look.func)) (hy : Look e y (.int k b) := by repeat (first | exact Look.here | apply Look.there (hne := rfl) | exact Look.const | apply Look.mix rfl | exact Look.arg0 | apply Look.args | exact Look.func)) : Ev P w0 Cs H e (.binOp .sub tx x y ty') ty (.int k (k.wrap (a - b))) := by
  intro w _ d pos af g
  replace hx := hx.eq
  replace hy := hy.eq
  simp [execOp, hx, hy, eqGuard_int, binOp, Op.intArith]
theorem Ev.mulW (hx : Look e x (.int k a) := by repeat (first | exact Look.here | apply Look.there (hne := rfl) | exact Look.const | apply Look.mix rfl | exact Look.arg0 | apply Look.args | exact Look.func)) (hy : Look e y (.int k b) := by repeat (first | exact Look.here | apply Look.there (hne := rfl) | exact Look.const | apply Look.mix rfl | exact Look.arg0 | apply Look.args | exact Look.func)) : Ev P w0 Cs H e (.binOp .mul tx x y ty') ty (.int k (k.wrap (a * b))) := by
  intro w _ d pos af g
  replace hx := hx.eq
  replace hy := hy.eq
  simp [execOp, hx, hy, eqGuard_int, binOp, Op.intArith]
theorem wrap_i64 (n : Int) (h : -9223372036854775808 ≤ n ∧ n ≤ 9223372036854775807) : IntKind.i64.wrap n = n := by
  simp only [IntKind.wrap, IntKind.bits, IntKind.signed]
  simp
  omega
theorem wrap_u64 (n : Int) (h : 0 ≤ n ∧ n ≤ 18446744073709551615) : IntKind.u64.wrap n = n := by
  simp only [IntKind.wrap, IntKind.bits, IntKind.signed]
  simp
  omega
theorem wrap_u64' (n : Int) : IntKind.u64.wrap n = n % 18446744073709551616 := by
  simp [IntKind.wrap, IntKind.bits, IntKind.signed]
theorem wrap_u32 (n : Int) (h : 0 ≤ n ∧ n ≤ 4294967295) : IntKind.u32.wrap n = n := by
  simp only [IntKind.wrap, IntKind.bits, IntKind.signed]
  simp
  omega
theorem wrap_u32' (n : Int) : IntKind.u32.wrap n = n % 4294967296 := by
  simp [IntKind.wrap, IntKind.bits, IntKind.signed]
theorem wrap_u8 (n : Int) (h : 0 ≤ n ∧ n ≤ 255) : IntKind.u8.wrap n = n := by
  simp only [IntKind.wrap, IntKind.bits, IntKind.signed]
  simp
  omega
theorem wrap_u8' (n : Int) : IntKind.u8.wrap n = n % 256 := by
  simp [IntKind.wrap, IntKind.bits, IntKind.signed]
theorem Ev.add (hx : Look e x (.int .i64 a) := by repeat (first | exact Look.here | apply Look.there (hne := rfl) | exact Look.const | apply Look.mix rfl | exact Look.arg0 | apply Look.args | exact Look.func)) (hy : Look e y (.int .i64 b) := by repeat (first | exact Look.here | apply Look.there (hne := rfl) | exact Look.const | apply Look.mix rfl | exact Look.arg0 | apply Look.args | exact Look.func)) (h : -9223372036854775808 ≤ a + b ∧ a + b ≤ 9223372036854775807 := by omega) :
    Ev P w0 Cs H e (.binOp .add tx x y ty') ty (.int .i64 (a + b)) := by
  have := Ev.addW (P := P) (w0 := w0) (Cs := Cs) (H := H) (tx := tx) (ty' := ty') (ty := ty) hx hy
  rwa [wrap_i64 _ h] at this
theorem Ev.sub (hx : Look e x (.int .i64 a) := by repeat (first | exact Look.here | apply Look.there (hne := rfl) | exact Look.const | apply Look.mix rfl | exact Look.arg0 | apply Look.args | exact Look.func)) (hy : Look e y (.int .i64 b) := by repeat (first | exact Look.here | apply Look.there (hne := rfl) | exact Look.const | apply Look.mix rfl | exact Look.arg0 | apply Look.args | exact Look.func)) (h : -9223372036854775808 ≤ a - b ∧ a - b ≤ 9223372036854775807 := by omega) :
    Ev P w0 Cs H e (.binOp .sub tx x y ty') ty (.int .i64 (a - b)) := by
  have := Ev.subW (P := P) (w0 := w0) (Cs := Cs) (H := H) (tx := tx) (ty' := ty') (ty := ty) hx hy
  rwa [wrap_i64 _ h] at this
theorem Ev.mul (hx : Look e x (.int .i64 a) := by repeat (first | exact Look.here | apply Look.there (hne := rfl) | exact Look.const | apply Look.mix rfl | exact Look.arg0 | apply Look.args | exact Look.func)) (hy : Look e y (.int .i64 b) := by repeat (first | exact Look.here | apply Look.there (hne := rfl) | exact Look.const | apply Look.mix rfl | exact Look.arg0 | apply Look.args | exact Look.func)) (h : -9223372036854775808 ≤ a * b ∧ a * b ≤ 9223372036854775807 := by omega) :
    Ev P w0 Cs H e (.binOp .mul tx x y ty') ty (.int .i64 (a * b)) := by
  have := Ev.mulW (P := P) (w0 := w0) (Cs := Cs) (H := H) (tx := tx) (ty' := ty') (ty := ty) hx hy
  rwa [wrap_i64 _ h] at this
/-- A counter goes one up. -/
theorem Ev.inc {n : Nat} (hx : Look e x (.int .i64 (n : Int)) := by repeat (first | exact Look.here | apply Look.there (hne := rfl) | exact Look.const | apply Look.mix rfl | exact Look.arg0 | apply Look.args | exact Look.func)) (h : n + 1 ≤ 9223372036854775807 := by omega) :
    Ev P w0 Cs H e (.binOp .add tx x (.const (.int .i64 1)) ty') ty (.int .i64 ((n + 1 : Nat) : Int)) := by
  have := Ev.add (P := P) (w0 := w0) (Cs := Cs) (H := H) (tx := tx) (ty' := ty') (ty := ty) hx (Look.const (v := .int .i64 1)) (by omega)
  exact this
theorem Ev.addU (hx : Look e x (.int .u64 a) := by repeat (first | exact Look.here | apply Look.there (hne := rfl) | exact Look.const | apply Look.mix rfl | exact Look.arg0 | apply Look.args | exact Look.func)) (hy : Look e y (.int .u64 b) := by repeat (first | exact Look.here | apply Look.there (hne := rfl) | exact Look.const | apply Look.mix rfl | exact Look.arg0 | apply Look.args | exact Look.func)) :
    Ev P w0 Cs H e (.binOp .add tx x y ty') ty (.int .u64 ((a + b) % 18446744073709551616)) := by
  have := Ev.addW (P := P) (w0 := w0) (Cs := Cs) (H := H) (tx := tx) (ty' := ty') (ty := ty) hx hy
  rwa [wrap_u64'] at this
theorem Ev.subU (hx : Look e x (.int .u64 a) := by repeat (first | exact Look.here | apply Look.there (hne := rfl) | exact Look.const | apply Look.mix rfl | exact Look.arg0 | apply Look.args | exact Look.func)) (hy : Look e y (.int .u64 b) := by repeat (first | exact Look.here | apply Look.there (hne := rfl) | exact Look.const | apply Look.mix rfl | exact Look.arg0 | apply Look.args | exact Look.func)) :
    Ev P w0 Cs H e (.binOp .sub tx x y ty') ty (.int .u64 ((a - b) % 18446744073709551616)) := by
  have := Ev.subW (P := P) (w0 := w0) (Cs := Cs) (H := H) (tx := tx) (ty' := ty') (ty := ty) hx hy
  rwa [wrap_u64'] at this
theorem Ev.mulU (hx : Look e x (.int .u64 a) := by repeat (first | exact Look.here | apply Look.there (hne := rfl) | exact Look.const | apply Look.mix rfl | exact Look.arg0 | apply Look.args | exact Look.func)) (hy : Look e y (.int .u64 b) := by repeat (first | exact Look.here | apply Look.there (hne := rfl) | exact Look.const | apply Look.mix rfl | exact Look.arg0 | apply Look.args | exact Look.func)) :
    Ev P w0 Cs H e (.binOp .mul tx x y ty') ty (.int .u64 ((a * b) % 18446744073709551616)) := by
  have := Ev.mulW (P := P) (w0 := w0) (Cs := Cs) (H := H) (tx := tx) (ty' := ty') (ty := ty) hx hy
  rwa [wrap_u64'] at this
theorem Ev.addU' (hx : Look e x (.int .u64 a) := by repeat (first | exact Look.here | apply Look.there (hne := rfl) | exact Look.const | apply Look.mix rfl | exact Look.arg0 | apply Look.args | exact Look.func)) (hy : Look e y (.int .u64 b) := by repeat (first | exact Look.here | apply Look.there (hne := rfl) | exact Look.const | apply Look.mix rfl | exact Look.arg0 | apply Look.args | exact Look.func)) (h : 0 ≤ a + b ∧ a + b ≤ 18446744073709551615 := by omega) :
    Ev P w0 Cs H e (.binOp .add tx x y ty') ty (.int .u64 (a + b)) := by
  have := Ev.addW (P := P) (w0 := w0) (Cs := Cs) (H := H) (tx := tx) (ty' := ty') (ty := ty) hx hy
  rwa [wrap_u64 _ h] at this
theorem Ev.subU' (hx : Look e x (.int .u64 a) := by repeat (first | exact Look.here | apply Look.there (hne := rfl) | exact Look.const | apply Look.mix rfl | exact Look.arg0 | apply Look.args | exact Look.func)) (hy : Look e y (.int .u64 b) := by repeat (first | exact Look.here | apply Look.there (hne := rfl) | exact Look.const | apply Look.mix rfl | exact Look.arg0 | apply Look.args | exact Look.func)) (h : 0 ≤ a - b ∧ a - b ≤ 18446744073709551615 := by omega) :
    Ev P w0 Cs H e (.binOp .sub tx x y ty') ty (.int .u64 (a - b)) := by
  have := Ev.subW (P := P) (w0 := w0) (Cs := Cs) (H := H) (tx := tx) (ty' := ty') (ty := ty) hx hy
  rwa [wrap_u64 _ h] at this
theorem Ev.quoW (hx : Look e x (.int k a) := by repeat (first | exact Look.here | apply Look.there (hne := rfl) | exact Look.const | apply Look.mix rfl | exact Look.arg0 | apply Look.args | exact Look.func)) (hy : Look e y (.int k b) := by repeat (first | exact Look.here | apply Look.there (hne := rfl) | exact Look.const | apply Look.mix rfl | exact Look.arg0 | apply Look.args | exact Look.func)) (hb : b ≠ 0 := by omega) : Ev P w0 Cs H e (.binOp .quo tx x y ty') ty (.int k (k.wrap (a.tdiv b))) := by
  intro w _ d pos af g
  replace hx := hx.eq
  replace hy := hy.eq
  simp [execOp, hx, hy, eqGuard_int, binOp, Op.intDiv, hb]
theorem Ev.remW (hx : Look e x (.int k a) := by repeat (first | exact Look.here | apply Look.there (hne := rfl) | exact Look.const | apply Look.mix rfl | exact Look.arg0 | apply Look.args | exact Look.func)) (hy : Look e y (.int k b) := by repeat (first | exact Look.here | apply Look.there (hne := rfl) | exact Look.const | apply Look.mix rfl | exact Look.arg0 | apply Look.args | exact Look.func)) (hb : b ≠ 0 := by omega) : Ev P w0 Cs H e (.binOp .rem tx x y ty') ty (.int k (a.tmod b)) := by
  intro w _ d pos af g
  replace hx := hx.eq
  replace hy := hy.eq
  simp [execOp, hx, hy, eqGuard_int, binOp, Op.intDiv, hb]
/-- Quotient and rest of what is not below 0. -/
theorem Ev.quo (hx : Look e x (.int .i64 a) := by repeat (first | exact Look.here | apply Look.there (hne := rfl) | exact Look.const | apply Look.mix rfl | exact Look.arg0 | apply Look.args | exact Look.func)) (hy : Look e y (.int .i64 b) := by repeat (first | exact Look.here | apply Look.there (hne := rfl) | exact Look.const | apply Look.mix rfl | exact Look.arg0 | apply Look.args | exact Look.func)) (ha : 0 ≤ a ∧ a ≤ 9223372036854775807 := by omega) (hb : 0 < b := by omega) : Ev P w0 Cs H e (.binOp .quo tx x y ty') ty (.int .i64 (a / b)) := by
  have := Ev.quoW (P := P) (w0 := w0) (Cs := Cs) (H := H) (tx := tx) (ty' := ty') (ty := ty) hx hy (by omega)
  rw [Int.tdiv_eq_ediv_of_nonneg ha.1, wrap_i64] at this
  · exact this
  · refine ⟨?_, ?_⟩
    · have := Int.ediv_nonneg ha.1 (by omega : 0 ≤ b); omega
    · have := Int.ediv_le_self b ha.1; omega
theorem Ev.rem (hx : Look e x (.int k a) := by repeat (first | exact Look.here | apply Look.there (hne := rfl) | exact Look.const | apply Look.mix rfl | exact Look.arg0 | apply Look.args | exact Look.func)) (hy : Look e y (.int k b) := by repeat (first | exact Look.here | apply Look.there (hne := rfl) | exact Look.const | apply Look.mix rfl | exact Look.arg0 | apply Look.args | exact Look.func)) (ha : 0 ≤ a := by omega) (hb : b ≠ 0 := by omega) : Ev P w0 Cs H e (.binOp .rem tx x y ty') ty (.int k (a % b)) := by
  have := Ev.remW (P := P) (w0 := w0) (Cs := Cs) (H := H) (tx := tx) (ty' := ty') (ty := ty) hx hy hb
  rwa [Int.tmod_eq_emod_of_nonneg ha] at this
theorem Ev.quoU (hx : Look e x (.int .u64 a) := by repeat (first | exact Look.here | apply Look.there (hne := rfl) | exact Look.const | apply Look.mix rfl | exact Look.arg0 | apply Look.args | exact Look.func)) (hy : Look e y (.int .u64 b) := by repeat (first | exact Look.here | apply Look.there (hne := rfl) | exact Look.const | apply Look.mix rfl | exact Look.arg0 | apply Look.args | exact Look.func)) (ha : 0 ≤ a ∧ a ≤ 18446744073709551615 := by omega) (hb : 0 < b := by omega) : Ev P w0 Cs H e (.binOp .quo tx x y ty') ty (.int .u64 (a / b)) := by
  have := Ev.quoW (P := P) (w0 := w0) (Cs := Cs) (H := H) (tx := tx) (ty' := ty') (ty := ty) hx hy (by omega)
  rw [Int.tdiv_eq_ediv_of_nonneg ha.1, wrap_u64] at this
  · exact this
  · refine ⟨?_, ?_⟩
    · have := Int.ediv_nonneg ha.1 (by omega : 0 ≤ b); omega
    · have := Int.ediv_le_self b ha.1; omega
theorem Ev.cmp {op : BinOp} {v : Bool} (hx : Look e x (.int k a) := by repeat (first | exact Look.here | apply Look.there (hne := rfl) | exact Look.const | apply Look.mix rfl | exact Look.arg0 | apply Look.args | exact Look.func)) (hy : Look e y (.int k b) := by repeat (first | exact Look.here | apply Look.there (hne := rfl) | exact Look.const | apply Look.mix rfl | exact Look.arg0 | apply Look.args | exact Look.func))
    (hop : op ∈ [BinOp.eql, .neq, .lss, .leq, .gtr, .geq]) (hv : ∀ w, (Op.intCmp op a b).run P w = .ok (.bool v) w) : Ev P w0 Cs H e (.binOp op tx x y ty') ty (.bool v) := by
  intro w _ d pos af g
  replace hx := hx.eq
  replace hy := hy.eq
  have h2 := hv w
  simp only [List.mem_cons, List.not_mem_nil, or_false] at hop
  rcases hop with rfl | rfl | rfl | rfl | rfl | rfl <;> simp [execOp, hx, hy, eqGuard_int, binOp, h2]
theorem Ev.lt (hx : Look e x (.int k a) := by repeat (first | exact Look.here | apply Look.there (hne := rfl) | exact Look.const | apply Look.mix rfl | exact Look.arg0 | apply Look.args | exact Look.func)) (hy : Look e y (.int k b) := by repeat (first | exact Look.here | apply Look.there (hne := rfl) | exact Look.const | apply Look.mix rfl | exact Look.arg0 | apply Look.args | exact Look.func)) : Ev P w0 Cs H e (.binOp .lss tx x y ty') ty (.bool (decide (a < b))) :=
  Ev.cmp hx hy (by simp) (fun w => by simp [Op.intCmp])
theorem Ev.le (hx : Look e x (.int k a) := by repeat (first | exact Look.here | apply Look.there (hne := rfl) | exact Look.const | apply Look.mix rfl | exact Look.arg0 | apply Look.args | exact Look.func)) (hy : Look e y (.int k b) := by repeat (first | exact Look.here | apply Look.there (hne := rfl) | exact Look.const | apply Look.mix rfl | exact Look.arg0 | apply Look.args | exact Look.func)) : Ev P w0 Cs H e (.binOp .leq tx x y ty') ty (.bool (decide (a ≤ b))) :=
  Ev.cmp hx hy (by simp) (fun w => by simp [Op.intCmp])
theorem Ev.gt (hx : Look e x (.int k a) := by repeat (first | exact Look.here | apply Look.there (hne := rfl) | exact Look.const | apply Look.mix rfl | exact Look.arg0 | apply Look.args | exact Look.func)) (hy : Look e y (.int k b) := by repeat (first | exact Look.here | apply Look.there (hne := rfl) | exact Look.const | apply Look.mix rfl | exact Look.arg0 | apply Look.args | exact Look.func)) : Ev P w0 Cs H e (.binOp .gtr tx x y ty') ty (.bool (decide (b < a))) :=
  Ev.cmp hx hy (by simp) (fun w => by simp [Op.intCmp])
theorem Ev.ge (hx : Look e x (.int k a) := by repeat (first | exact Look.here | apply Look.there (hne := rfl) | exact Look.const | apply Look.mix rfl | exact Look.arg0 | apply Look.args | exact Look.func)) (hy : Look e y (.int k b) := by repeat (first | exact Look.here | apply Look.there (hne := rfl) | exact Look.const | apply Look.mix rfl | exact Look.arg0 | apply Look.args | exact Look.func)) : Ev P w0 Cs H e (.binOp .geq tx x y ty') ty (.bool (decide (b ≤ a))) :=
  Ev.cmp hx hy (by simp) (fun w => by simp [Op.intCmp])
theorem Ev.eq (hx : Look e x (.int k a) := by repeat (first | exact Look.here | apply Look.there (hne := rfl) | exact Look.const | apply Look.mix rfl | exact Look.arg0 | apply Look.args | exact Look.func)) (hy : Look e y (.int k b) := by repeat (first | exact Look.here | apply Look.there (hne := rfl) | exact Look.const | apply Look.mix rfl | exact Look.arg0 | apply Look.args | exact Look.func)) : Ev P w0 Cs H e (.binOp .eql tx x y ty') ty (.bool (decide (a = b))) :=
  Ev.cmp hx hy (by simp) (fun w => by simp [Op.intCmp]; rfl)
theorem Ev.ne (hx : Look e x (.int k a) := by repeat (first | exact Look.here | apply Look.there (hne := rfl) | exact Look.const | apply Look.mix rfl | exact Look.arg0 | apply Look.args | exact Look.func)) (hy : Look e y (.int k b) := by repeat (first | exact Look.here | apply Look.there (hne := rfl) | exact Look.const | apply Look.mix rfl | exact Look.arg0 | apply Look.args | exact Look.func)) : Ev P w0 Cs H e (.binOp .neq tx x y ty') ty (.bool (decide (a ≠ b))) :=
  Ev.cmp hx hy (by simp) (fun w => by simp [Op.intCmp]; rfl)
end
end
end Go.Rx
