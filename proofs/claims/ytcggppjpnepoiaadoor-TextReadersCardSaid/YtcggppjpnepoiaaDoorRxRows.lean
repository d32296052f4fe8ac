/- From the reading of a call's arguments: rows whose elements hold slices; a claim's first world with its shape. -/
import Derived.Test.YtcggppjpnepoiaaDoorRxBook
import Derived.Test.YtcggppjpnepoiaaDoorRxGrp
import Derived.HandedShaped
namespace Go.Rx
open Go Go.RowKit
set_option linter.unusedVariables false
section
variable {H : Type} {enc : TypeId × Value → H} {P : Program} {w : World} {base : Nat} {held : Bool}
theorem weights_in_all {e : TypeId} {n : Nat} : ∀ {ds : List (DataW H)} {d : DataW H}, d ∈ ds → n ∈ d.weights P e → n ∈ DataW.weightsAll P e ds
  | x :: r, d, hd, hn => by
    simp only [DataW.weightsAll, List.mem_append]
    rcases List.mem_cons.1 hd with rfl | hd
    · exact .inl hn
    · exact .inr (weights_in_all hd hn)
/-- A slice of whatever elements: of each row what its reading tells. -/
theorem open_rowsG {α : Type} [Inhabited α] {en : α → List Value} {k : Nat} {t e : TypeId} {fuel : Nat} {cs : List Value} {x : DataW H × List MemPlace} (Q : α → Prop) (ht : P.underlying t = some (.slice e)) (hk : P.cellsOf e = k) (hpos : 0 < P.bytesOf e)
    (hQ : ∀ fuel row y, DataW.trod enc P w base (fun _ => true) held fuel e row = some y → Light P e y.1 → row.length = k → ∃ x : α, en x = row ∧ Q x)
    (h : DataW.trod enc P w base (fun _ => true) held fuel t cs = some x) (hl : Light P t x.1) :
    ∃ (A : Option Addr) (c : Nat) (xs : List α), cs = [.slice A xs.length c] ∧ RSl en k w [] (.slice A xs.length c) xs ∧ xs.length * P.bytesOf e ≤ reachBytes ∧ ∀ x ∈ xs, Q x := by
  rcases DataW.trod_slice ht h with ⟨rfl, rfl⟩ | ⟨a, len, cap, elems, rest, n, rfl, rfl, rfl, hb, hlc, hcm, hel, hget, hsp, _⟩
  · exact ⟨none, 0, [], rfl, ⟨⟨none, 0, rfl, Nat.le_refl _, fun _ => rfl⟩, by simp, by simp, fun i hi => by simp at hi⟩, by simp, by simp⟩
  · have hw := hl ((elems.map (·.1)).length + (rest.map (·.1)).length |> (· * P.bytesOf e)) (by simp [DataW.weights, ht])
    have hrow : ∀ i, i < len → ∃ x : α, (en x).length = k ∧ Q x ∧ ∀ j u, (en x)[j]? = some u → w.cell? ((a.add (i * k)).add j) = some u := by
      intro i hi
      have h1 := hget i hi
      have h2 : i < elems.length := by omega
      rw [List.getElem?_eq_getElem h2, Option.bind_eq_some_iff] at h1
      obtain ⟨row, hr1, hr2⟩ := h1
      rw [hk] at hr1
      have hli : Light P e elems[i].1 := fun m hm => hl m (by
        simp only [DataW.weights, ht]
        refine List.mem_cons_of_mem _ (List.mem_append.2 (.inl ?_))
        exact weights_in_all (List.mem_map.2 ⟨elems[i], List.getElem_mem _, rfl⟩) hm)
      obtain ⟨g1, g2⟩ := cells?_get hr1
      obtain ⟨x, rfl, hx⟩ := hQ n row _ hr2 hli g1
      exact ⟨x, g1, hx, g2⟩
    classical
    let f : Nat → α := fun i => if h : i < len then Classical.choose (hrow i h) else default
    have hf : ∀ i (h : i < len), f i = Classical.choose (hrow i h) := by
      intro i h
      simp only [f, dif_pos h]
    refine ⟨some a, cap, (List.range len).map f, by simp, ⟨⟨some a, cap, by simp, by simpa using hlc, by simp⟩, ?_, ?_, ?_⟩, ?_, ?_⟩
    · simp at hw ⊢
      have : len * 1 ≤ reachBytes := Nat.le_trans (Nat.mul_le_mul (by omega : len ≤ elems.length + rest.length) hpos) hw
      simp only [reachBytes] at this
      omega
    · intro x hx
      obtain ⟨i, hi, rfl⟩ := List.mem_map.1 hx
      have hi' : i < len := by simpa using hi
      rw [hf i hi']
      exact (Classical.choose_spec (hrow i hi')).1
    · intro i hi j u hu
      have hi' : i < len := by simpa using hi
      have e1 : ((List.range len).map f)[i]! = f i := by
        rw [getElem!_pos _ i hi]
        simp
      rw [e1, hf i hi'] at hu
      have := (Classical.choose_spec (hrow i hi')).2.2 j u hu
      rw [Addr.add_add] at this
      exact ⟨by simpa [sbase] using this, by simp⟩
    · simp at hw ⊢
      refine Nat.le_trans (Nat.mul_le_mul_right _ ?_) hw
      omega
    · intro x hx
      obtain ⟨i, hi, rfl⟩ := List.mem_map.1 hx
      have hi' : i < len := by simpa using hi
      rw [hf i hi']
      exact (Classical.choose_spec (hrow i hi')).2.1
/-- A field that is a number. -/
theorem trod_num {t : TypeId} {k : IntKind} {fuel : Nat} {cs : List Value} {x : DataW H × List MemPlace} (hs : sorts P 20 t = some [.int k]) (h : DataW.trod enc P w base (fun _ => true) held fuel t cs = some x) : ∃ n, cs = [.int k n] ∧ (Lit.int k n).wf = true := by
  obtain ⟨g1, g2⟩ := trod_plain 20 t _ hs fuel cs x h
  obtain ⟨c0, r0, rfl, h0, g1⟩ := areSorts_cons g1
  obtain rfl := areSorts_nil g1
  obtain ⟨n, rfl⟩ := isSort_int h0
  exact ⟨n, rfl, by simpa [wfV] using g2⟩
end
/-- A row of bytes within a reading. -/
theorem open_bytesAt {H : Type} {enc : TypeId × Value → H} {P : Program} {w : World} {base : Nat} {held : Bool} {t e : TypeId} {fuel : Nat} {cs : List Value} {x : DataW H × List MemPlace} (ht : P.underlying t = some (.slice e)) (hs : sorts P 20 e = some [.int .u8]) (hb : P.bytesOf e = 1)
    (h : DataW.trod enc P w base (fun _ => true) held fuel t cs = some x) (hl : Light P t x.1) :
    ∃ (A : Option Addr) (c : Nat) (l : List Int), cs = [.slice A l.length c] ∧ RSl byteEnc 1 w [] (.slice A l.length c) l ∧ (∀ n ∈ l, 0 ≤ n ∧ n ≤ 255) ∧ l.length ≤ reachBytes := by
  obtain ⟨A, c, xs, h1, r1, l1, w1⟩ := open_rows (en := byteEnc) (dec := fun cs => numAt cs 0) ht hs (by rw [hb]; decide) (fun cs h => by
    obtain ⟨c0, r0, rfl, h0, h⟩ := areSorts_cons h
    obtain rfl := areSorts_nil h
    obtain ⟨n0, rfl⟩ := isSort_int h0
    rfl) h hl
  rw [hb, Nat.mul_one] at l1
  refine ⟨A, c, xs, h1, r1, ?_, l1⟩
  intro x hx
  have := (w1 x hx).2
  simp only [byteEnc, List.all_cons, List.all_nil, Bool.and_true] at this
  have h2 : (Lit.int .u8 x).wf = true := this
  unfold Lit.wf at h2
  rw [Bool.and_eq_true] at h2
  exact ⟨of_decide_eq_true h2.1, of_decide_eq_true h2.2⟩
/-- The wrap of a row with laid variables, the world's shape kept. -/
theorem returnsInHanded_of_and_shaped {H : Type} {enc : TypeId × Value → H} {a : Assume} {C : Checked} {os : Os} {f : FuncId} {fn : Func} {s : ChangeSpec} {conds : List PathCond} {apart fresh handsOn again : Bool} {X : World → Array Value → Prop}
    (hX : ∀ (w w' : World) (args : Array Value), w.heap = w'.heap → X w args → X w' args)
    (own : ownKnob C.prog.godebug = none) (started : os.Started) (noInit : C.prog.inits.idxOf? f = none) (hfn : C.prog.funcs[f]? = some fn)
    (witness : ∃ (w : World) (tape : Tape) (i : Input), w.os = os ∧ (w.forCall tape i).Shaped C.prog ∧ i.vars = [] ∧ Input.okWide C.prog (w.forCall tape i) .any w.heap.size f i ∧
      ((s.pre enc C.prog fn conds apart (w.forCall tape i).memory i.args ∧ X (w.forCall tape i).memory i.args) ∧ sizedMet enc C.prog fn (OpenSpec.ofChange s) apart (w.forCall tape i).memory i.args) ∧ a.holds C.prog (lone (Frame.enter C.prog f i.args .normal) [] (w.forCall tape i)))
    (contract : ∀ (W : World) (base : Nat) (args : Array Value) (ds gs : List (DataW H)) (before : List MemPlace),
      (∀ (j : Nat) t v, fn.params[j]? = some t → args[j]? = some v → Value.okWide C.prog W .any base t v) →
      DataW.Whole enc C.prog fn.params.toList s.vars apart W args.toList ds gs before →
      conds.all (PathCond.test C.prog ⟨fn.params.toList, ds, s.plain.varTypes C.prog, gs⟩) = true →
      (DataW.weightsEach C.prog (fn.params.toList ++ s.plain.varTypes C.prog) (ds ++ gs)).all (· ≤ reachBytes) = true → X W args → W.ShapedOpen C.prog →
      a.holds C.prog (lone (Frame.enter C.prog f args .normal) [] W) →
      Calls C.prog f args W fun e W' => ∃ v, e = .returned v ∧ s.post enc C.prog fn apart fresh handsOn again W args v W') :
    ReturnsInHanded a C os f .any (fun w args => (s.pre enc C.prog fn conds apart w args ∧ X w args) ∧ sizedMet enc C.prog fn (OpenSpec.ofChange s) apart w args) (s.post enc C.prog fn apart fresh handsOn again) := by
  refine returnsInHanded_of_calls own started noInit witness ?_
  intro w tape i _ hsh _ hok hpre hholds
  obtain ⟨_, _, _, fn', hfn', _, _, _, _, hval⟩ := hok
  have e : fn' = fn := Option.some.inj (hfn'.symm.trans hfn)
  subst e
  obtain ⟨⟨⟨ds, gs, before, hw, hc⟩, hx⟩, hz⟩ := hpre
  have hw' := DataW.Whole.of_heap (w' := w.forCall tape i) (by rfl) hw
  refine (contract (w.forCall tape i) w.heap.size i.args ds gs before hval hw' hc (hz.weights hw) (hX _ _ _ (by rfl) hx) hsh hholds).mono fun e W' ⟨v, he, hp⟩ => ?_
  subst he
  exact ChangeSpec.post_blind hp
end Go.Rx
