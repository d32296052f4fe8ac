/- The rule layer, seventh part: rules of control in the shapes in which the code comes. -/
import Derived.Test.YtcggppjpnepoiaaDoorRxOwn
namespace Go.Rx
open Go Go.RowKit
set_option linter.unusedVariables false
set_option linter.unusedSimpArgs false
section
variable {P : Program} {n : Nat} {w0 : World} {Cs H : List Chunk} {e : Env} {Q : Exit → Env → List Chunk → Prop} {x y z : Code}
theorem JC.rs {id : Nat} {l : List Oper} (h : Seq P n l.toArray w0 Cs l H e (fun e' H' => JC P n w0 Cs y H' e' Q)) : JC P n w0 Cs (.seq (.region id l.toArray false) y) H e Q :=
  JC.seq (JC.reg h)
theorem JC.qs {id : Nat} {l : List Oper} (hm : P.follows .mixedOrders = true) (hB : Region.lexB .any l.toArray = true) (h : Qui P n l.toArray w0 Cs H l e (fun e' => JC P n w0 Cs y H e' Q)) : JC P n w0 Cs (.seq (.region id l.toArray true) y) H e Q :=
  JC.seq (JC.quiet hm hB h)
/-- A test. -/
theorem JC.c {c : Operand} {p : Prop} [Decidable p] (hc : Look e c (.bool (decide p)) := by repeat (first | exact Look.here | apply Look.there (hne := rfl) | exact Look.const | apply Look.mix rfl | exact Look.arg0 | apply Look.args | exact Look.func)) (ht : p → JC P n w0 Cs x H e Q) (hf : ¬ p → JC P n w0 Cs y H e Q) : JC P n w0 Cs (.cond c x y) H e Q :=
  JC.condP hc.eq ht hf
theorem JC.cb {c : Operand} {b : Bool} (hc : Look e c (.bool b) := by repeat (first | exact Look.here | apply Look.there (hne := rfl) | exact Look.const | apply Look.mix rfl | exact Look.arg0 | apply Look.args | exact Look.func)) (ht : b = true → JC P n w0 Cs x H e Q) (hf : b = false → JC P n w0 Cs y H e Q) : JC P n w0 Cs (.cond c x y) H e Q :=
  JC.cond hc.eq ht hf
theorem JC.cT {c : Operand} (hc : Look e c (.bool true) := by repeat (first | exact Look.here | apply Look.there (hne := rfl) | exact Look.const | apply Look.mix rfl | exact Look.arg0 | apply Look.args | exact Look.func)) (h : JC P n w0 Cs x H e Q) : JC P n w0 Cs (.cond c x y) H e Q := JC.condT hc.eq h
theorem JC.cF {c : Operand} (hc : Look e c (.bool false) := by repeat (first | exact Look.here | apply Look.there (hne := rfl) | exact Look.const | apply Look.mix rfl | exact Look.arg0 | apply Look.args | exact Look.func)) (h : JC P n w0 Cs y H e Q) : JC P n w0 Cs (.cond c x y) H e Q := JC.condF hc.eq h
theorem JC.blk {id : Nat} (h : JC P n w0 Cs x H e (blockQ id Q)) : JC P n w0 Cs (.block id x) H e Q := JC.block h
/-- The results of a function. -/
theorem Seq.split {ops : Array Oper} {K : Env → List Chunk → Prop} {l : List Oper} {d : Nat} {b : Bool} (hd : Look e (.tmp d) (.bool b) := by repeat (first | exact Look.here | apply Look.there (hne := rfl) | exact Look.const | apply Look.mix rfl | exact Look.arg0 | apply Look.args | exact Look.func)) (k : ∀ c : Bool, b = c → Seq P n ops w0 Cs l H (upd e d (.bool c)) K) : Seq P n ops w0 Cs l H e K := by
  have h := k b rfl
  have he : upd e d (.bool b) = e := by
    funext j
    by_cases hj : j = d
    · subst hj; rw [upd_same]; exact hd.eq.symm
    · rw [upd_ne _ _ hj]
  rwa [he] at h
theorem Qui.split {ops : Array Oper} {K : Env → Prop} {l : List Oper} {d : Nat} {b : Bool} (hd : Look e (.tmp d) (.bool b) := by repeat (first | exact Look.here | apply Look.there (hne := rfl) | exact Look.const | apply Look.mix rfl | exact Look.arg0 | apply Look.args | exact Look.func)) (k : ∀ c : Bool, b = c → Qui P n ops w0 Cs H l (upd e d (.bool c)) K) : Qui P n ops w0 Cs H l e K := by
  have h := k b rfl
  have he : upd e d (.bool b) = e := by
    funext j
    by_cases hj : j = d
    · subst hj; rw [upd_same]; exact hd.eq.symm
    · rw [upd_ne _ _ hj]
  rwa [he] at h
theorem retI {rs : List ResultVar} {Post : Value → List Chunk → Prop} {vs : List Value} {H' : List Chunk} (h : RVs P w0 Cs H e rs vs) (hp : Part H' H) (hpost : Post (pack vs) H') : retQ P w0 Cs rs Post .ret e H := by
  unfold retQ
  exact ⟨vs, H', h, hp, hpost⟩
theorem RVs.t {t : Tmp} {v : Value} {rs : List ResultVar} {vs : List Value} (hv : Look e (.tmp t) v := by repeat (first | exact Look.here | apply Look.there (hne := rfl) | exact Look.const | apply Look.mix rfl | exact Look.arg0 | apply Look.args | exact Look.func)) (hs : RVs P w0 Cs H e rs vs) : RVs P w0 Cs H e (.tmp t :: rs) (v :: vs) := by
  have h := RV.tmp (P := P) (w0 := w0) (Cs := Cs) (H := H) (e := e) t
  have hv' : e t = v := hv.eq
  rw [hv'] at h
  exact RVs.cons h hs
/-- A result that stands in a variable of the call's own. -/
theorem RVs.bA {a : Tmp} {ty tb : TypeId} {b i m : Nat} {cs : List Value} {rs : List ResultVar} {vs : List Value} (hag : isAg P ty m = true) (ha : Look e (.tmp a) (.pointer (some ⟨b, 0, none⟩)) := by repeat (first | exact Look.here | apply Look.there (hne := rfl) | exact Look.const | apply Look.mix rfl | exact Look.arg0 | apply Look.args | exact Look.func)) (hH : At H i (.box b tb cs) := by repeat (first | exact At.z | apply At.s)) (hm : cs.length = m := by rfl) (hs : RVs P w0 Cs H e rs vs) :
    RVs P w0 Cs H e (.cell a ty :: rs) (.agg cs.toArray :: vs) := by
  refine RVs.cons (RV.cell a ty ⟨b, 0, none⟩ _ ha.eq ?_) hs
  intro w hw
  have hc : Cells w0 Cs H ⟨b, 0, none⟩ cs := Cells.boxed hH (fun j u hu => by simpa using hu)
  have h := run_loadCells_list (P := P) (w := w) ⟨b, 0, none⟩ cs (hc w hw)
  obtain ⟨h1, h2⟩ := isAg_run hag w
  simp [loadVar, h1, h2, ← hm, h]
theorem RVs.bS {a : Tmp} {ty tb : TypeId} {b i : Nat} {v : Value} {rs : List ResultVar} {vs : List Value} (hsc : isSc P ty = true) (ha : Look e (.tmp a) (.pointer (some ⟨b, 0, none⟩)) := by repeat (first | exact Look.here | apply Look.there (hne := rfl) | exact Look.const | apply Look.mix rfl | exact Look.arg0 | apply Look.args | exact Look.func)) (hH : At H i (.box b tb [v]) := by repeat (first | exact At.z | apply At.s)) (hs : RVs P w0 Cs H e rs vs) :
    RVs P w0 Cs H e (.cell a ty :: rs) (v :: vs) := by
  refine RVs.cons (RV.cell a ty ⟨b, 0, none⟩ _ ha.eq ?_) hs
  intro w hw
  have hc : Cells w0 Cs H ⟨b, 0, none⟩ [v] := Cells.boxed hH (fun j u hu => by simpa using hu)
  have h := hc w hw 0 v rfl
  rw [Addr.add_zero] at h
  simp [loadVar, isSc_run hsc, h]
theorem retB1 {a : Tmp} {ty tb : TypeId} {b i m : Nat} {cs : List Value} {Post : Value → List Chunk → Prop} {H' : List Chunk} (hag : isAg P ty m = true) (ha : Look e (.tmp a) (.pointer (some ⟨b, 0, none⟩)) := by repeat (first | exact Look.here | apply Look.there (hne := rfl) | exact Look.const | apply Look.mix rfl | exact Look.arg0 | apply Look.args | exact Look.func)) (hH : At H i (.box b tb cs) := by repeat (first | exact At.z | apply At.s)) (hm : cs.length = m := by rfl) (hp : Part H' H) (hpost : Post (.agg cs.toArray) H') : retQ P w0 Cs [.cell a ty] Post .ret e H :=
  retI (RVs.bA hag ha hH hm RVs.nil) hp hpost
theorem retB2 {a t2 : Tmp} {v2 : Value} {ty tb : TypeId} {b i m : Nat} {cs : List Value} {Post : Value → List Chunk → Prop} {H' : List Chunk} (hag : isAg P ty m = true) (ha : Look e (.tmp a) (.pointer (some ⟨b, 0, none⟩)) := by repeat (first | exact Look.here | apply Look.there (hne := rfl) | exact Look.const | apply Look.mix rfl | exact Look.arg0 | apply Look.args | exact Look.func)) (hH : At H i (.box b tb cs) := by repeat (first | exact At.z | apply At.s)) (hm : cs.length = m := by rfl) (hv2 : Look e (.tmp t2) v2 := by repeat (first | exact Look.here | apply Look.there (hne := rfl) | exact Look.const | apply Look.mix rfl | exact Look.arg0 | apply Look.args | exact Look.func)) (hp : Part H' H) (hpost : Post (.tuple #[.agg cs.toArray, v2]) H') : retQ P w0 Cs [.cell a ty, .tmp t2] Post .ret e H :=
  retI (RVs.bA hag ha hH hm (RVs.t hv2 RVs.nil)) hp hpost
theorem retB3 {a t2 t3 : Tmp} {v2 v3 : Value} {ty tb : TypeId} {b i m : Nat} {cs : List Value} {Post : Value → List Chunk → Prop} {H' : List Chunk} (hag : isAg P ty m = true) (ha : Look e (.tmp a) (.pointer (some ⟨b, 0, none⟩)) := by repeat (first | exact Look.here | apply Look.there (hne := rfl) | exact Look.const | apply Look.mix rfl | exact Look.arg0 | apply Look.args | exact Look.func)) (hH : At H i (.box b tb cs) := by repeat (first | exact At.z | apply At.s)) (hm : cs.length = m := by rfl) (hv2 : Look e (.tmp t2) v2 := by repeat (first | exact Look.here | apply Look.there (hne := rfl) | exact Look.const | apply Look.mix rfl | exact Look.arg0 | apply Look.args | exact Look.func)) (hv3 : Look e (.tmp t3) v3 := by repeat (first | exact Look.here | apply Look.there (hne := rfl) | exact Look.const | apply Look.mix rfl | exact Look.arg0 | apply Look.args | exact Look.func)) (hp : Part H' H) (hpost : Post (.tuple #[.agg cs.toArray, v2, v3]) H') : retQ P w0 Cs [.cell a ty, .tmp t2, .tmp t3] Post .ret e H :=
  retI (RVs.bA hag ha hH hm (RVs.t hv2 (RVs.t hv3 RVs.nil))) hp hpost
theorem ret1 {t : Tmp} {v : Value} {Post : Value → List Chunk → Prop} {H' : List Chunk} (hv : Look e (.tmp t) v := by repeat (first | exact Look.here | apply Look.there (hne := rfl) | exact Look.const | apply Look.mix rfl | exact Look.arg0 | apply Look.args | exact Look.func)) (hp : Part H' H) (hpost : Post v H') : retQ P w0 Cs [.tmp t] Post .ret e H :=
  retI (RVs.t hv RVs.nil) hp hpost
theorem ret2 {t t2 : Tmp} {v v2 : Value} {Post : Value → List Chunk → Prop} {H' : List Chunk} (hv : Look e (.tmp t) v := by repeat (first | exact Look.here | apply Look.there (hne := rfl) | exact Look.const | apply Look.mix rfl | exact Look.arg0 | apply Look.args | exact Look.func)) (hv2 : Look e (.tmp t2) v2 := by repeat (first | exact Look.here | apply Look.there (hne := rfl) | exact Look.const | apply Look.mix rfl | exact Look.arg0 | apply Look.args | exact Look.func)) (hp : Part H' H) (hpost : Post (.tuple #[v, v2]) H') : retQ P w0 Cs [.tmp t, .tmp t2] Post .ret e H :=
  retI (RVs.t hv (RVs.t hv2 RVs.nil)) hp hpost
theorem ret3 {t t2 t3 : Tmp} {v v2 v3 : Value} {Post : Value → List Chunk → Prop} {H' : List Chunk} (hv : Look e (.tmp t) v := by repeat (first | exact Look.here | apply Look.there (hne := rfl) | exact Look.const | apply Look.mix rfl | exact Look.arg0 | apply Look.args | exact Look.func)) (hv2 : Look e (.tmp t2) v2 := by repeat (first | exact Look.here | apply Look.there (hne := rfl) | exact Look.const | apply Look.mix rfl | exact Look.arg0 | apply Look.args | exact Look.func)) (hv3 : Look e (.tmp t3) v3 := by repeat (first | exact Look.here | apply Look.there (hne := rfl) | exact Look.const | apply Look.mix rfl | exact Look.arg0 | apply Look.args | exact Look.func)) (hp : Part H' H) (hpost : Post (.tuple #[v, v2, v3]) H') : retQ P w0 Cs [.tmp t, .tmp t2, .tmp t3] Post .ret e H :=
  retI (RVs.t hv (RVs.t hv2 (RVs.t hv3 RVs.nil))) hp hpost
theorem Cells.cell {a : Addr} {v : Value} (h : Cell w0 Cs a v) : Cells w0 Cs H a [v] := by
  intro w hw j u hu
  cases j with
  | zero => simp at hu; subst hu; rw [Addr.add_zero]; exact h.up hw
  | succ j => simp at hu
theorem box_cell {w : World} {i b off : Nat} {t : TypeId} {cs : List Value} {v : Value} (hw : Upd w0 w Cs H) (hH : At H i (.box b t cs)) (hv : cs[off]? = some v) : Cell w [] ⟨b, off, none⟩ v := by
  have hb : w.heap[b]? = some (.cells cs.toArray t (0, 0)) := hH.ok hw
  refine ⟨?_, by simp⟩
  rw [cell_of_row w b off cs.toArray t (0, 0) hb]
  simpa using hv
end
end Go.Rx
