/- From the reading of a call's arguments to the rule layer's data. -/
import Derived.Test.YtcggppjpnepoiaaDoorRxData
import Derived.ProofKit
import Derived.OpenShut
import Derived.SizedLaws
namespace Go.Rx
open Go Go.RowKit
set_option linter.unusedVariables false
set_option linter.unusedSimpArgs false
/-- A number is in its kind's bounds, a text no longer than may be. -/
def wfV : Value → Bool
  | .int k n => (Lit.int k n).wf
  | .string s => decide (s.size ≤ maxLen)
  | _ => true
theorem areSorts_of_append {l r : List Sort1} {xs ys : List Value} (h1 : areSorts l xs = true) (h2 : areSorts r ys = true) : areSorts (l ++ r) (xs ++ ys) = true := by
  induction l generalizing xs with
  | nil => cases xs with
    | nil => simpa using h2
    | cons x xs => simp [areSorts] at h1
  | cons s l ih => cases xs with
    | nil => simp [areSorts] at h1
    | cons x xs =>
      simp [areSorts] at h1 ⊢
      exact ⟨h1.1, ih h1.2⟩
section
variable {H : Type} {enc : TypeId × Value → H} {P : Program} {w : World} {base : Nat} {spare : Nat → Bool} {held : Bool}
theorem trod_plain : ∀ (d : Nat) (t : TypeId) (l : List Sort1), sorts P d t = some l → ∀ (fuel : Nat) (cs : List Value) (x : DataW H × List MemPlace),
    DataW.trod enc P w base spare held fuel t cs = some x → areSorts l cs = true ∧ cs.all wfV = true
  | 0, t, l, h, fuel, cs, x, hx => by simp [sorts] at h
  | d + 1, t, l, h, fuel, cs, x, hx => by
    have hcl := sorts_cells h
    unfold sorts at h
    split at h
    · rename_i k hu
      simp at h; obtain ⟨hone, rfl⟩ := h
      cases fuel with
      | zero => simp [DataW.trod] at hx
      | succ n =>
        unfold DataW.trod at hx
        rw [hu] at hx
        split at hx <;> simp_all [areSorts, isSort, wfV]
    · rename_i hu
      simp at h; obtain ⟨hone, rfl⟩ := h
      cases fuel with
      | zero => simp [DataW.trod] at hx
      | succ n =>
        unfold DataW.trod at hx
        rw [hu] at hx
        split at hx <;> simp_all [areSorts, isSort, wfV]
    · rename_i hu
      simp at h; obtain ⟨hone, rfl⟩ := h
      cases fuel with
      | zero => simp [DataW.trod] at hx
      | succ n =>
        unfold DataW.trod at hx
        rw [hu] at hx
        split at hx <;> simp_all [areSorts, isSort, wfV]
    · rename_i fs hu
      split at h
      · rename_i l' i h1 h2 h3
        split at h
        · rename_i hsz
          simp at h; subst h
          obtain ⟨xs, n, _, _, hl, hxl, hf⟩ := DataW.trod_struct hu hx
          have key : ∀ (gs : List Field) (off : Nat) (r : List Sort1), sortsF (sorts P d) gs off = some r → (∀ f ∈ gs, ∃ y, DataW.trod enc P w base spare held n f.type ((cs.drop f.offset).take (P.cellsOf f.type)) = some y) → off + r.length ≤ cs.length →
              areSorts r ((cs.drop off).take r.length) = true ∧ ((cs.drop off).take r.length).all wfV = true := by
            intro gs
            induction gs with
            | nil => intro off r hr _ _; simp [sortsF] at hr; subst hr; simp [areSorts]
            | cons f gs ih =>
              intro off r hr hall hle
              unfold sortsF at hr
              split at hr
              · rename_i l1 hc hl1
                split at hr
                · rename_i r1 hr1
                  simp at hr; subst hr
                  simp only [Bool.and_eq_true, decide_eq_true_eq, beq_iff_eq] at hc
                  obtain ⟨y, hy⟩ := hall f (List.mem_cons_self ..)
                  rw [hc.2, sorts_cells hl1] at hy
                  have g1 := trod_plain d f.type l1 hl1 n _ _ hy
                  simp only [List.length_append] at hle
                  have g2 := ih (off + l1.length) r1 hr1 (fun g hg => hall g (List.mem_cons_of_mem _ hg)) (by omega)
                  have e1 : (cs.drop off).take (l1 ++ r1).length = (cs.drop off).take l1.length ++ (cs.drop (off + l1.length)).take r1.length := by
                    rw [List.length_append, List.take_add, List.drop_drop]
                  rw [e1]
                  refine ⟨areSorts_of_append g1.1 g2.1, ?_⟩
                  rw [List.all_append, g1.2, g2.2]
                  rfl
                · cases hr
              · cases hr
          have := key fs.toList 0 l' h2 (fun f hf' => by
            obtain ⟨j, hj, hjf⟩ := List.getElem_of_mem hf'
            have hj' : fs[j]? = some f := by
              have : j < fs.size := by simpa using hj
              simp at hjf
              simp [this, hjf]
            have h5 := hf j f hj'
            have : j < xs.length := by rw [hxl]; simpa using hj
            exact ⟨xs[j], by rw [h5]; simp [this]⟩) (by rw [hl, hcl]; omega)
          have hl2 : cs.length = l'.length := by rw [hl, hcl]
          have e2 : cs.take l'.length = cs := List.take_of_length_le (by omega)
          simpa [e2] using this
        · cases h
      · cases h
    · rename_i len el hu
      split at h
      · rename_i l' i j h1 h2 h3
        split at h
        · rename_i hsz
          simp at h; subst h
          obtain ⟨xs, n, _, _, hl, hxl, hf⟩ := DataW.trod_array hu hx
          have key : ∀ (m k : Nat), k + m = len → areSorts (List.replicate m l').flatten ((cs.drop (k * l'.length)).take (m * l'.length)) = true ∧ ((cs.drop (k * l'.length)).take (m * l'.length)).all wfV = true := by
            intro m
            induction m with
            | zero => intro k hk; simp [areSorts]
            | succ m ih =>
              intro k hk
              have h5 := hf k (by omega)
              rw [sorts_cells h1] at h5
              have : k < xs.length := by omega
              have g1 := trod_plain d el l' h1 n _ xs[k] (by rw [h5]; simp [this])
              have g2 := ih (k + 1) (by omega)
              have e1 : (cs.drop (k * l'.length)).take ((m + 1) * l'.length) = (cs.drop (k * l'.length)).take l'.length ++ (cs.drop ((k + 1) * l'.length)).take (m * l'.length) := by
                have : (m + 1) * l'.length = l'.length + m * l'.length := by rw [Nat.add_mul]; omega
                rw [this, List.take_add, List.drop_drop, Nat.add_mul, Nat.one_mul]
              rw [e1, List.replicate_succ, List.flatten_cons]
              refine ⟨areSorts_of_append g1.1 g2.1, ?_⟩
              rw [List.all_append, g1.2, g2.2]
              rfl
          have := key len 0 (by omega)
          have hl2 : cs.length = len * l'.length := by rw [hl, hcl]; simp
          have e2 : cs.take (len * l'.length) = cs := List.take_of_length_le (by omega)
          simpa [e2] using this
        · cases h
      · cases h
    · cases h
/-- What a reading weighs is within the form's reach. -/
def Light (P : Program) (t : TypeId) (d : DataW H) : Prop := ∀ n ∈ d.weights P t, n ≤ reachBytes
theorem cells?_get {a : Addr} {n : Nat} {cs : List Value} (h : w.cells? base a n = some cs) : cs.length = n ∧ ∀ j u, cs[j]? = some u → w.cell? (a.add j) = some u := by
  unfold World.cells? at h
  split at h
  · refine ⟨by simpa using mapM_some_length h, fun j u hu => ?_⟩
    have hj : j < n := by
      have h1 := (List.getElem?_eq_some_iff.1 hu).1
      have h2 : cs.length = n := by simpa using mapM_some_length h
      omega
    have := mapM_some_get h j j (by simp [hj])
    rw [this, hu]
  · cases h
/-- A slice of plain data. -/
theorem open_rows {α : Type} [Inhabited α] {en : α → List Value} {dec : List Value → α} {l : List Sort1} {t e : TypeId} {fuel : Nat} {cs : List Value} {x : DataW H × List MemPlace} (ht : P.underlying t = some (.slice e)) (hs : sorts P 20 e = some l) (hpos : 0 < P.bytesOf e)
    (hen : ∀ cs, areSorts l cs = true → en (dec cs) = cs) (h : DataW.trod enc P w base (fun _ => true) held fuel t cs = some x) (hl : Light P t x.1) :
    ∃ (A : Option Addr) (c : Nat) (xs : List α), cs = [.slice A xs.length c] ∧ RSl en l.length w [] (.slice A xs.length c) xs ∧ xs.length * P.bytesOf e ≤ reachBytes ∧ ∀ x ∈ xs, areSorts l (en x) = true ∧ (en x).all wfV = true := by
  rcases DataW.trod_slice ht h with ⟨rfl, rfl⟩ | ⟨a, len, cap, elems, rest, n, rfl, rfl, rfl, hb, hlc, hcm, hel, hget, hsp, _⟩
  · exact ⟨none, 0, [], rfl, ⟨⟨none, 0, rfl, Nat.le_refl _, fun _ => rfl⟩, by simp, by simp, fun i hi => by simp at hi⟩, by simp, by simp⟩
  · have hw := hl ((elems.map (·.1)).length + (rest.map (·.1)).length |> (· * P.bytesOf e)) (by simp [DataW.weights, ht])
    have hrow : ∀ i, i < len → ∃ row, areSorts l row = true ∧ row.all wfV = true ∧ ∀ j u, row[j]? = some u → w.cell? ((a.add (i * l.length)).add j) = some u := by
      intro i hi
      have h1 := hget i hi
      have h2 : i < elems.length := by omega
      rw [List.getElem?_eq_getElem h2, Option.bind_eq_some_iff] at h1
      obtain ⟨row, hr1, hr2⟩ := h1
      rw [sorts_cells hs] at hr1
      have g := trod_plain 20 e l hs n row _ hr2
      exact ⟨row, g.1, g.2, (cells?_get hr1).2⟩
    classical
    let f : Nat → α := fun i => if h : i < len then dec (Classical.choose (hrow i h)) else default
    have hf : ∀ i (h : i < len), en (f i) = Classical.choose (hrow i h) := by
      intro i h
      simp only [f, dif_pos h]
      exact hen _ (Classical.choose_spec (hrow i h)).1
    refine ⟨some a, cap, (List.range len).map f, by simp, ⟨⟨some a, cap, by simp, by simpa using hlc, by simp⟩, ?_, ?_, ?_⟩, ?_, ?_⟩
    · simp at hw ⊢
      have : len * 1 ≤ reachBytes := Nat.le_trans (Nat.mul_le_mul (by omega : len ≤ elems.length + rest.length) hpos) hw
      simp only [reachBytes] at this
      omega
    · intro x hx
      obtain ⟨i, hi, rfl⟩ := List.mem_map.1 hx
      have hi' : i < len := by simpa using hi
      rw [hf i hi']
      exact areSorts_length (Classical.choose_spec (hrow i hi')).1
    · intro i hi j u hu
      have hi' : i < len := by simpa using hi
      have e1 : ((List.range len).map f)[i]! = f i := by
        rw [getElem!_pos _ i hi]
        simp
      rw [e1, hf i hi'] at hu
      have := (Classical.choose_spec (hrow i hi')).2.2 j u hu
      rw [Addr.add_add] at this
      exact ⟨by simpa [sbase] using this, by simp⟩
    · simp at hw ⊢
      refine Nat.le_trans (Nat.mul_le_mul_right _ ?_) hw
      omega
    · intro x hx
      obtain ⟨i, hi, rfl⟩ := List.mem_map.1 hx
      have hi' : i < len := by simpa using hi
      rw [hf i hi']
      exact ⟨(Classical.choose_spec (hrow i hi')).1, (Classical.choose_spec (hrow i hi')).2.1⟩
theorem light_field {t : TypeId} {fs : Array Field} {xs : List (DataW H × List MemPlace)} (hu : P.underlying t = some (.struct fs)) (h : Light P t (.agg (xs.map (·.1)))) {i : Nat} {f : Field} {y : DataW H × List MemPlace} (hf : fs[i]? = some f) (hy : xs[i]? = some y) : Light P f.type y.1 := by
  intro n hn
  refine h n ?_
  simp only [DataW.weights, hu]
  refine DataW.weights_mem_each (j := i) (t := f.type) (d := y.1) ?_ ?_ n hn
  · simp [hf]
  · simp [hy]
end
end Go.Rx
