/- The rule layer: maps of the call's own, exact, as a list of keys and values. -/
import Derived.Test.YtcggppjpnepoiaaDoorRxBook
import Derived.MapKept
import Derived.Carry
namespace Go.Rx
open Go Go.RowKit
set_option linter.unusedVariables false
set_option linter.unusedSimpArgs false
structure KeyEnc {κ : Type} [DecidableEq κ] (d : TypeDesc) (ke : κ → Value) : Prop where
  key : ∀ a, MapKept.IsKey d (ke a)
  same : ∀ a b, Instr.sameNow d (ke a) (ke b) = some (decide (a = b))
theorem intKey (k : IntKind) : KeyEnc (.int k) (Value.int k) :=
  ⟨fun a => rfl, fun a b => by
    simp only [Instr.sameNow, if_true]
    congr 1⟩
theorem strKey : KeyEnc .string Value.string :=
  ⟨fun a => trivial, fun a b => by
    simp only [Instr.sameNow]
    congr 1
    by_cases h : a = b
    · simp only [h, decide_true]; exact (MapKept.bytes_beq b b).2 rfl
    · simp only [h, decide_false]
      cases hb : a == b with
      | false => rfl
      | true => exact absurd ((MapKept.bytes_beq a b).1 hb) h⟩
section
variable {κ : Type} [DecidableEq κ]
def aget : List (κ × Value) → κ → Option Value
  | [], _ => none
  | (a, v) :: r, k => if k = a then some v else aget r k
def aput : List (κ × Value) → κ → Value → List (κ × Value)
  | [], k, v => [(k, v)]
  | (a, x) :: r, k, v => if k = a then (k, v) :: r else (a, x) :: aput r k v
def mobj (ke : κ → Value) : Nat → List (κ × Value) → List MapEntry
  | _, [] => []
  | j, (a, v) :: r => { key := ke a, val := v, born := j } :: mobj ke (j + 1) r
def afind : List (κ × Value) → κ → Nat → Option (Nat × Value)
  | [], _, _ => none
  | (a, v) :: r, k, i => if k = a then some (i, v) else afind r k (i + 1)
theorem afind_get (as : List (κ × Value)) (k : κ) (i : Nat) : (afind as k i).map (·.2) = aget as k := by
  induction as generalizing i with
  | nil => rfl
  | cons p r ih =>
    obtain ⟨a, v⟩ := p
    simp only [afind, aget]
    split
    · rfl
    · exact ih _
theorem findNow_mobj {d : TypeDesc} {ke : κ → Value} (hk : KeyEnc d ke) (as : List (κ × Value)) (k : κ) (i j : Nat) : Instr.findNow d (ke k) (mobj ke j as) i = some (afind as k i) := by
  induction as generalizing i j with
  | nil => rfl
  | cons p r ih =>
    obtain ⟨a, v⟩ := p
    simp only [mobj, Instr.findNow, hk.same, afind]
    by_cases h : k = a
    · simp [h]
    · simp [h, ih]
omit [DecidableEq κ] in
theorem mobj_length (ke : κ → Value) (j : Nat) (as : List (κ × Value)) : (mobj ke j as).length = as.length := by
  induction as generalizing j with
  | nil => rfl
  | cons p r ih => simp [mobj, ih]
theorem aput_new {as : List (κ × Value)} {k : κ} {i : Nat} (h : afind as k i = none) (ke : κ → Value) (j : Nat) (v : Value) : mobj ke j as ++ [{ key := ke k, val := v, born := j + as.length }] = mobj ke j (aput as k v) ∧ (aput as k v).length = as.length + 1 := by
  induction as generalizing i j with
  | nil => simp [mobj, aput]
  | cons p r ih =>
    obtain ⟨a, x⟩ := p
    simp only [afind] at h
    split at h
    · cases h
    · rename_i hne
      have := ih h (j + 1)
      simp only [aput, if_neg hne, mobj, List.length_cons, List.cons_append]
      refine ⟨?_, by omega⟩
      rw [← this.1]
      congr 2
      · simp; omega
theorem aput_old {as : List (κ × Value)} {k : κ} {i m : Nat} {v0 : Value} (h : afind as k i = some (m, v0)) (ke : κ → Value) (j : Nat) (v : Value) : i ≤ m ∧ (mobj ke j as).modify (m - i) (fun e => { e with key := ke k, val := v }) = mobj ke j (aput as k v) ∧ (aput as k v).length = as.length ∧ ((mobj ke j as)[m - i]?).map (·.key) = some (ke k) := by
  induction as generalizing i j with
  | nil => simp [afind] at h
  | cons p r ih =>
    obtain ⟨a, x⟩ := p
    simp only [afind] at h
    split at h
    · rename_i he
      simp at h
      obtain ⟨rfl, rfl⟩ := h
      subst he
      simp [aput, mobj]
    · rename_i hne
      have h2 := ih h (j + 1)
      obtain ⟨h3, h4, h5, h6⟩ := h2
      have e1 : m - i = (m - (i + 1)) + 1 := by omega
      simp only [aput, if_neg hne, mobj, List.length_cons]
      rw [e1]
      refine ⟨by omega, ?_, by omega, ?_⟩
      · simp only [List.modify_succ_cons]
        rw [h4]
      · simpa using h6
abbrev Chunk.mp (b : Nat) (ke : κ → Value) (as : List (κ × Value)) : Chunk := .blk b (.map (mobj ke 0 as).toArray as.length)
def mapOf (P : Program) (mt kt et : TypeId) (d : TypeDesc) : Prop := P.underlying mt = some (.map kt et) ∧ P.underlying kt = some d
theorem Upd.obj {w : World} {b : Nat} {o o' : Obj} (ho : w.heap[b]? = some o) : Upd w { w with heap := w.heap.setIfInBounds b o' } [.blk b o] [.blk b o'] :=
  Upd.blk ho rfl rfl rfl (by simp) (MapKept.heap_set ho).1 (fun i hi hne => (MapKept.heap_set ho).2 i hi)
variable {P : Program} {n : Nat} {ops : Array Oper} {w0 : World} {Cs H : List Chunk} {e : Env} {K : Env → List Chunk → Prop} {rest : List Oper}
  {t : Nat} {ty : TypeId} {pos : String} {af : Array Edge} {x y u : Operand} {d : TypeDesc} {ke : κ → Value}
theorem run_lookup {mt kt et : TypeId} {b : Nat} {as : List (κ × Value)} {k : κ} {z : Value} {w : World} (hm : mapOf P mt kt et d) (hk : KeyEnc d ke) (hz : zeroOf P et = some z) (hb : w.heap[b]? = some (.map (mobj ke 0 as).toArray as.length)) (ok : Bool) :
    (Instr.lookup mt (.map (some b)) (ke k) ok).run P w = .ok (if ok then .tuple #[(aget as k).getD z, .bool (aget as k).isSome] else (aget as k).getD z) w := by
  unfold Instr.lookup
  have hf := findNow_mobj hk as k 0 0
  have h1 : ∀ em, (Instr.checkKey em 10000 kt (ke k)).run P w = .ok () w := fun em => MapKept.run_checkKey hm.2 (hk.key k) em 9999
  have h2 := MapKept.run_findKey (w := w) hm.2 hf
  have h3 := afind_get as k 0
  have hzz : (zeroValue et).run P w = .ok z w := by
    unfold zeroOf at hz
    cases hi : P.info? et with
    | none => simp [hi] at hz
    | some i =>
      simp [hi] at hz
      simp [zeroValue, typeInfo, hi, hz]
  cases ha : afind as k 0 with
  | none =>
    rw [ha] at h2 h3
    have h4 : aget as k = none := h3.symm
    simp only [h4]
    cases ok <;> simp [run_underlying hm.1, MapKept.run_getObj_map hb, h1, h2, hzz, Result.andThen]
  | some p =>
    rw [ha] at h2 h3
    have h4 : aget as k = some p.2 := h3.symm
    simp only [h4]
    cases ok <;> simp [run_underlying hm.1, MapKept.run_getObj_map hb, h1, h2, hzz, Result.andThen]
theorem Ev.mapGetD {mt kt et : TypeId} {b i : Nat} {as : List (κ × Value)} {k : κ} {z : Value} (hm : mapOf P mt kt et d) (hk : KeyEnc d ke) (hz : zeroOf P et = some z) (hx : Look e x (.map (some b)) := by repeat (first | exact Look.here | apply Look.there (hne := rfl) | exact Look.const | apply Look.mix rfl | exact Look.arg0 | apply Look.args | exact Look.func)) (hy : Look e y (ke k) := by repeat (first | exact Look.here | apply Look.there (hne := rfl) | exact Look.const | apply Look.mix rfl | exact Look.arg0 | apply Look.args | exact Look.func)) (hH : At H i (.mp b ke as) := by repeat (first | exact At.z | apply At.s)) :
    Ev P w0 Cs H e (.lookup mt x y false) ty ((aget as k).getD z) := by
  intro w hw dd pos af g
  have hb : w.heap[b]? = some (.map (mobj ke 0 as).toArray as.length) := hH.ok hw
  simp [execOp, hx.eq, hy.eq, run_lookup hm hk hz hb]
theorem Ev.mapGet {mt kt et : TypeId} {b i : Nat} {as : List (κ × Value)} {k : κ} {z v : Value} (hm : mapOf P mt kt et d) (hk : KeyEnc d ke) (hz : zeroOf P et = some z) (hx : Look e x (.map (some b)) := by repeat (first | exact Look.here | apply Look.there (hne := rfl) | exact Look.const | apply Look.mix rfl | exact Look.arg0 | apply Look.args | exact Look.func)) (hy : Look e y (ke k) := by repeat (first | exact Look.here | apply Look.there (hne := rfl) | exact Look.const | apply Look.mix rfl | exact Look.arg0 | apply Look.args | exact Look.func)) (hH : At H i (.mp b ke as) := by repeat (first | exact At.z | apply At.s)) (hv : aget as k = some v := by rfl) :
    Ev P w0 Cs H e (.lookup mt x y false) ty v := by
  have := Ev.mapGetD (w0 := w0) (Cs := Cs) (ty := ty) hm hk hz hx hy hH
  rwa [hv] at this
theorem Ev.mapMiss {mt kt et : TypeId} {b i : Nat} {as : List (κ × Value)} {k : κ} {z : Value} (hm : mapOf P mt kt et d) (hk : KeyEnc d ke) (hz : zeroOf P et = some z) (hx : Look e x (.map (some b)) := by repeat (first | exact Look.here | apply Look.there (hne := rfl) | exact Look.const | apply Look.mix rfl | exact Look.arg0 | apply Look.args | exact Look.func)) (hy : Look e y (ke k) := by repeat (first | exact Look.here | apply Look.there (hne := rfl) | exact Look.const | apply Look.mix rfl | exact Look.arg0 | apply Look.args | exact Look.func)) (hH : At H i (.mp b ke as) := by repeat (first | exact At.z | apply At.s)) (hv : aget as k = none := by rfl) :
    Ev P w0 Cs H e (.lookup mt x y false) ty z := by
  have := Ev.mapGetD (w0 := w0) (Cs := Cs) (ty := ty) hm hk hz hx hy hH
  rwa [hv] at this
theorem Ev.mapNil {mt kt et : TypeId} {k : κ} {z : Value} (hm : mapOf P mt kt et d) (hk : KeyEnc d ke) (hz : zeroOf P et = some z) (hx : Look e x (.map none) := by repeat (first | exact Look.here | apply Look.there (hne := rfl) | exact Look.const | apply Look.mix rfl | exact Look.arg0 | apply Look.args | exact Look.func)) (hy : Look e y (ke k) := by repeat (first | exact Look.here | apply Look.there (hne := rfl) | exact Look.const | apply Look.mix rfl | exact Look.arg0 | apply Look.args | exact Look.func)) :
    Ev P w0 Cs H e (.lookup mt x y false) ty z := by
  intro w hw dd pos af g
  have h1 : ∀ em, (Instr.checkKey em 10000 kt (ke k)).run P w = .ok () w := fun em => MapKept.run_checkKey hm.2 (hk.key k) em 9999
  have h2 := MapKept.run_findKey (w := w) (l := []) (k := ke k) (a := none) hm.2 rfl
  have hzz : (zeroValue et).run P w = .ok z w := by
    unfold zeroOf at hz
    cases hi : P.info? et with
    | none => simp [hi] at hz
    | some i =>
      simp [hi] at hz
      simp [zeroValue, typeInfo, hi, hz]
  simp [execOp, hx.eq, hy.eq, Instr.lookup, run_underlying hm.1, h1, h2, hzz, Result.andThen]
omit [DecidableEq κ] in
/-- An empty map. -/
theorem Seq.mkMap {mt : TypeId} (ke : κ → Value) (ht : Nat.blt t n = true := by rfl)
    (k : ∀ b, Seq P n ops w0 Cs rest (.mp b ke [] :: H) (upd e t (.map (some b))) K) :
    Seq P n ops w0 Cs (⟨some t, .makeMap mt none, ty, pos, af, none⟩ :: rest) H e K := by
  refine Seq.f ht (R := fun v H' => ∃ b, v = .map (some b) ∧ H' = .mp b ke [] :: H) ?_ ?_
  · intro w hw dd pos af g
    refine ⟨_, _, _, .inl ?_, Upd.alloc hw (.map #[] 0), _, rfl, rfl⟩
    simp [execOp, run_makeMap]
  · rintro v H' ⟨b, rfl, rfl⟩
    exact k b
theorem run_mapPut {mt kt et : TypeId} {b : Nat} {as : List (κ × Value)} {k : κ} {v : Value} {w : World} (hm : mapOf P mt kt et d) (hk : KeyEnc d ke) (hb : w.heap[b]? = some (.map (mobj ke 0 as).toArray as.length)) :
    (Instr.mapUpdate mt (.map (some b)) (ke k) v).run P w = .ok () { w with heap := w.heap.setIfInBounds b (.map (mobj ke 0 (aput as k v)).toArray (aput as k v).length) } := by
  have hf := findNow_mobj hk as k 0 0
  have h1 : (Instr.checkKey false 10000 kt (ke k)).run P w = .ok () w := MapKept.run_checkKey hm.2 (hk.key k) false 9999
  have h2 := MapKept.run_findKey (w := w) hm.2 hf
  unfold Instr.mapUpdate
  cases ha : afind as k 0 with
  | none =>
    rw [ha] at h2
    obtain ⟨q1, q2⟩ := aput_new ha ke 0 v
    simp only [Nat.zero_add] at q1
    rw [← q1, q2]
    simp [run_underlying hm.1, MapKept.run_getObj_map hb, h1, h2, MapKept.run_setObj_map _ hb, Result.andThen]
  | some p =>
    obtain ⟨m, v0⟩ := p
    rw [ha] at h2
    obtain ⟨_, q1, q2, q3⟩ := aput_old ha ke 0 v
    simp only [Nat.sub_zero] at q1 q3
    rw [← q1, q2]
    have q4 : ((((mobj ke 0 as).toArray)[m]?).map (·.key)).getD (ke k) = ke k := by
      rw [List.getElem?_toArray, q3]
      rfl
    have q5 : ((mobj ke 0 as).toArray.modify m fun e => { key := ke k, val := v, born := e.born }) = ((mobj ke 0 as).modify m fun e => { key := ke k, val := v, born := e.born }).toArray := by
      simp
    simp only [run_underlying hm.1, MapKept.run_getObj_map hb, h1, h2, Sem.run_bind, Result.andThen, q4, MapKept.run_keyThatStays (hk.key k), MapKept.run_setObj_map _ hb, List.toList_toArray, q5]
theorem Seq.mapPut {mt kt et : TypeId} {b i : Nat} {as as' : List (κ × Value)} {k : κ} {v : Value} (hm : mapOf P mt kt et d) (hk : KeyEnc d ke) (hx : Look e x (.map (some b)) := by repeat (first | exact Look.here | apply Look.there (hne := rfl) | exact Look.const | apply Look.mix rfl | exact Look.arg0 | apply Look.args | exact Look.func)) (hy : Look e y (ke k) := by repeat (first | exact Look.here | apply Look.there (hne := rfl) | exact Look.const | apply Look.mix rfl | exact Look.arg0 | apply Look.args | exact Look.func)) (hu : Look e u v := by repeat (first | exact Look.here | apply Look.there (hne := rfl) | exact Look.const | apply Look.mix rfl | exact Look.arg0 | apply Look.args | exact Look.func)) (hH : At H i (.mp b ke as) := by repeat (first | exact At.z | apply At.s)) (has : aput as k v = as' := by rfl)
    (kk : Seq P n ops w0 Cs rest (H.set i (.mp b ke as')) e K) :
    Seq P n ops w0 Cs (⟨none, .mapUpdate mt x y u, ty, pos, af, none⟩ :: rest) H e K := by
  subst has
  refine Seq.f0 (R := fun _ H' => H' = H.set i (.mp b ke (aput as k v))) ?_ ?_
  · intro w hw dd pos af g
    have hb : w.heap[b]? = some (.map (mobj ke 0 as).toArray as.length) := hH.ok hw
    refine ⟨undef, _, _, .inr ⟨?_, rfl⟩, Upd.at_ hw hH (Upd.obj hb), rfl⟩
    simp [execOp, hx.eq, hy.eq, hu.eq, run_mapPut hm hk hb]
  · rintro v H' rfl
    exact kk
theorem Seq.mapIns {mt kt et : TypeId} {b i : Nat} {as as' : List (κ × Value)} {k : κ} {v : Value} (hm : mapOf P mt kt et d) (hk : KeyEnc d ke) (hx : Look e x (.map (some b)) := by repeat (first | exact Look.here | apply Look.there (hne := rfl) | exact Look.const | apply Look.mix rfl | exact Look.arg0 | apply Look.args | exact Look.func)) (hy : Look e y (ke k) := by repeat (first | exact Look.here | apply Look.there (hne := rfl) | exact Look.const | apply Look.mix rfl | exact Look.arg0 | apply Look.args | exact Look.func)) (hu : Look e u v := by repeat (first | exact Look.here | apply Look.there (hne := rfl) | exact Look.const | apply Look.mix rfl | exact Look.arg0 | apply Look.args | exact Look.func)) (hH : At H i (.mp b ke as) := by repeat (first | exact At.z | apply At.s)) (has : aput as k v = as' := by rfl)
    (kk : Seq P n ops w0 Cs rest (H.set i (.mp b ke as')) e K) :
    Seq P n ops w0 Cs (⟨none, .insert mt x y u, ty, pos, af, none⟩ :: rest) H e K := by
  subst has
  refine Seq.f0 (R := fun _ H' => H' = H.set i (.mp b ke (aput as k v))) ?_ ?_
  · intro w hw dd pos af g
    have hb : w.heap[b]? = some (.map (mobj ke 0 as).toArray as.length) := hH.ok hw
    refine ⟨undef, _, _, .inr ⟨?_, rfl⟩, Upd.at_ hw hH (Upd.obj hb), rfl⟩
    simp [execOp, hx.eq, hy.eq, hu.eq, run_mapPut hm hk hb]
  · rintro v H' rfl
    exact kk
end
/-! ### maps from int to whole numbers -/
def iget : List (Int × Int) → Int → Int
  | [], _ => 0
  | (a, v) :: r, k => if k = a then v else iget r k
def iput : List (Int × Int) → Int → Int → List (Int × Int)
  | [], k, v => [(k, v)]
  | (a, x) :: r, k, v => if k = a then (k, v) :: r else (a, x) :: iput r k v
def vals (kv : IntKind) (as : List (Int × Int)) : List (Int × Value) := as.map fun p => (p.1, .int kv p.2)
theorem aget_vals (kv : IntKind) (as : List (Int × Int)) (k : Int) : (aget (vals kv as) k).getD (.int kv 0) = .int kv (iget as k) := by
  induction as with
  | nil => rfl
  | cons p r ih =>
    obtain ⟨a, v⟩ := p
    simp only [vals, List.map_cons, aget, iget]
    split
    · rfl
    · exact ih
theorem aput_vals (kv : IntKind) (as : List (Int × Int)) (k v : Int) : aput (vals kv as) k (.int kv v) = vals kv (iput as k v) := by
  induction as with
  | nil => rfl
  | cons p r ih =>
    obtain ⟨a, x⟩ := p
    simp only [vals, List.map_cons, aput, iput]
    split
    · rfl
    · simp only [List.map_cons]
      congr 1
abbrev Chunk.mi (b : Nat) (kk kv : IntKind) (as : List (Int × Int)) : Chunk := .mp b (Value.int kk) (vals kv as)
/-- A map that is only read: nil, or one that lies there. -/
def RMp (kk kv : IntKind) (w : World) (Cs : List Chunk) (v : Value) (as : List (Int × Int)) : Prop :=
  (v = .map none ∧ as = []) ∨ ∃ b, v = .map (some b) ∧ b < w.heap.size ∧ w.heap[b]? = some (.map (mobj (Value.int kk) 0 (vals kv as)).toArray (vals kv as).length) ∧ ∀ c ∈ Cs, ¬ c.fp b
theorem RMp.at_ {kk kv : IntKind} {w0 w : World} {Cs H : List Chunk} {v : Value} {as : List (Int × Int)} (h : RMp kk kv w0 Cs v as) (hw : Upd w0 w Cs H) : RMp kk kv w H v as := by
  rcases h with h | ⟨b, rfl, hb, ho, hc⟩
  · exact .inl h
  · refine .inr ⟨b, rfl, Nat.lt_of_lt_of_le hb hw.size, by rw [hw.keep b hb hc]; exact ho, ?_⟩
    intro c hcm hfp
    rcases hw.fresh c hcm b hfp with ⟨d, hd, hdi⟩ | hge
    · exact hc d hd hdi
    · omega
theorem RMp.part {kk kv : IntKind} {w : World} {H H' : List Chunk} {v : Value} {as : List (Int × Int)} (h : RMp kk kv w H v as) (hp : Part H' H) : RMp kk kv w H' v as := by
  rcases h with h | ⟨b, rfl, hb, ho, hc⟩
  · exact .inl h
  · exact .inr ⟨b, rfl, hb, ho, fun c hm => hc c (hp.mem hm)⟩
theorem RMp.up {kk kv : IntKind} {w0 w : World} {Cs H : List Chunk} {v : Value} {as : List (Int × Int)} (h : RMp kk kv w0 Cs v as) (hw : Upd w0 w Cs H) : RMp kk kv w [] v as := (h.at_ hw).part (Part.nil _)
theorem RMp.nil (kk kv : IntKind) (w : World) (Cs : List Chunk) : RMp kk kv w Cs (.map none) [] := .inl ⟨rfl, rfl⟩
/-- The like over whatever world the call has come to. -/
def RM (kk kv : IntKind) (w0 : World) (Cs H : List Chunk) (v : Value) (as : List (Int × Int)) : Prop := ∀ w, Upd w0 w Cs H → RMp kk kv w [] v as
theorem RM.up {kk kv : IntKind} {w0 : World} {Cs H : List Chunk} {v : Value} {as : List (Int × Int)} (h : RM kk kv w0 Cs H v as) {w : World} (hw : Upd w0 w Cs H) : RMp kk kv w [] v as := h w hw
theorem RMp.r {kk kv : IntKind} {w0 : World} {Cs H : List Chunk} {v : Value} {as : List (Int × Int)} (h : RMp kk kv w0 Cs v as) : RM kk kv w0 Cs H v as := fun w hw => h.up hw
theorem RM.own {kk kv : IntKind} {w0 : World} {Cs H : List Chunk} {b i : Nat} {as : List (Int × Int)} (hH : At H i (.mi b kk kv as) := by repeat (first | exact At.z | apply At.s)) : RM kk kv w0 Cs H (.map (some b)) as := by
  intro w hw
  have hb : w.heap[b]? = some (.map (mobj (Value.int kk) 0 (vals kv as)).toArray (vals kv as).length) := hH.ok hw
  exact .inr ⟨b, rfl, (Array.getElem?_eq_some_iff.1 hb).1, hb, by simp⟩
section
variable {P : Program} {n : Nat} {ops : Array Oper} {w0 : World} {Cs H : List Chunk} {e : Env} {K : Env → List Chunk → Prop} {rest : List Oper}
  {t : Nat} {ty : TypeId} {pos : String} {af : Array Edge} {x y u : Operand}
theorem Ev.mapI {kk kv : IntKind} {mt kt et : TypeId} {v : Value} {as : List (Int × Int)} {k : Int} (hm : mapOf P mt kt et (.int kk)) (hz : zeroOf P et = some (.int kv 0)) (hr : RM kk kv w0 Cs H v as) (hx : Look e x v := by repeat (first | exact Look.here | apply Look.there (hne := rfl) | exact Look.const | apply Look.mix rfl | exact Look.arg0 | apply Look.args | exact Look.func)) (hy : Look e y (.int kk k) := by repeat (first | exact Look.here | apply Look.there (hne := rfl) | exact Look.const | apply Look.mix rfl | exact Look.arg0 | apply Look.args | exact Look.func)) :
    Ev P w0 Cs H e (.lookup mt x y false) ty (.int kv (iget as k)) := by
  intro w hw dd pos af g
  rcases hr w hw with ⟨rfl, rfl⟩ | ⟨b, rfl, _, hb, _⟩
  · exact Ev.mapNil hm (intKey kk) hz hx hy w hw dd pos af g
  · simp [execOp, hx.eq, hy.eq, run_lookup hm (intKey kk) hz hb, aget_vals]
theorem Seq.mapPutI {kk kv : IntKind} {mt kt et : TypeId} {b i : Nat} {as as' : List (Int × Int)} {k v : Int} (hm : mapOf P mt kt et (.int kk)) (hx : Look e x (.map (some b)) := by repeat (first | exact Look.here | apply Look.there (hne := rfl) | exact Look.const | apply Look.mix rfl | exact Look.arg0 | apply Look.args | exact Look.func)) (hy : Look e y (.int kk k) := by repeat (first | exact Look.here | apply Look.there (hne := rfl) | exact Look.const | apply Look.mix rfl | exact Look.arg0 | apply Look.args | exact Look.func)) (hu : Look e u (.int kv v) := by repeat (first | exact Look.here | apply Look.there (hne := rfl) | exact Look.const | apply Look.mix rfl | exact Look.arg0 | apply Look.args | exact Look.func)) (hH : At H i (.mi b kk kv as) := by repeat (first | exact At.z | apply At.s)) (has : iput as k v = as' := by rfl)
    (kk' : Seq P n ops w0 Cs rest (H.set i (.mi b kk kv as')) e K) :
    Seq P n ops w0 Cs (⟨none, .mapUpdate mt x y u, ty, pos, af, none⟩ :: rest) H e K :=
  Seq.mapPut hm (intKey kk) hx hy hu hH (by rw [aput_vals, has]) kk'
theorem Seq.mapInsI {kk kv : IntKind} {mt kt et : TypeId} {b i : Nat} {as as' : List (Int × Int)} {k v : Int} (hm : mapOf P mt kt et (.int kk)) (hx : Look e x (.map (some b)) := by repeat (first | exact Look.here | apply Look.there (hne := rfl) | exact Look.const | apply Look.mix rfl | exact Look.arg0 | apply Look.args | exact Look.func)) (hy : Look e y (.int kk k) := by repeat (first | exact Look.here | apply Look.there (hne := rfl) | exact Look.const | apply Look.mix rfl | exact Look.arg0 | apply Look.args | exact Look.func)) (hu : Look e u (.int kv v) := by repeat (first | exact Look.here | apply Look.there (hne := rfl) | exact Look.const | apply Look.mix rfl | exact Look.arg0 | apply Look.args | exact Look.func)) (hH : At H i (.mi b kk kv as) := by repeat (first | exact At.z | apply At.s)) (has : iput as k v = as' := by rfl)
    (kk' : Seq P n ops w0 Cs rest (H.set i (.mi b kk kv as')) e K) :
    Seq P n ops w0 Cs (⟨none, .insert mt x y u, ty, pos, af, none⟩ :: rest) H e K :=
  Seq.mapIns hm (intKey kk) hx hy hu hH (by rw [aput_vals, has]) kk'
theorem Seq.mkMapI {mt : TypeId} (kk kv : IntKind) (ht : Nat.blt t n = true := by rfl)
    (k : ∀ b, Seq P n ops w0 Cs rest (.mi b kk kv [] :: H) (upd e t (.map (some b))) K) :
    Seq P n ops w0 Cs (⟨some t, .makeMap mt none, ty, pos, af, none⟩ :: rest) H e K := Seq.mkMap (Value.int kk) ht k
end
end Go.Rx
