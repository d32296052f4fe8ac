/- The rule layer, ninth part: a region that draws its order, some of whose operations make memory: what only reads is taken first, wherever it stands; of the others one alone may come up at a time. -/
import Derived.Test.YtkmakbkchnibkaaRxEq
import Derived.OrdersHeld
namespace Go.Rx
open Go Go.RowKit
set_option linter.unusedVariables false
set_option linter.unusedSimpArgs false
def Any (P : Program) (n : Nat) (ops : Array Oper) (w0 : World) (Cs H0 : List Chunk) (fuel : Nat) (listed : Array Bool) (H : List Chunk) (e : Env) (K : Env → List Chunk → Prop) : Prop :=
  ∀ a w, Fits n e a → Upd w0 w Cs H → Part H0 H →
    wpAnyH P .any ops (fun x a' w' => x = .normal ∧ ∃ e' H', Fits n e' a' ∧ Upd w0 w' Cs H' ∧ K e' H') (fun w => Upd w0 w Cs H0) fuel listed a w
section
variable {P : Program} {n : Nat} {ops : Array Oper} {w0 : World} {Cs H0 H : List Chunk} {e : Env} {K : Env → List Chunk → Prop} {fuel : Nat} {listed : Array Bool}
  {t : Nat} {op : Op} {ty : TypeId} {pos : String} {af : Array Edge} {v : Value}
theorem Any.done (hr : Region.ready .any ops listed = []) (h : K e H) : Any P n ops w0 Cs H0 fuel listed H e K :=
  fun a w hf hw _ => wpAnyH_done hr ⟨rfl, e, H, hf, hw, h⟩ fuel
/-- What only computes or reads is taken first. -/
theorem Any.p (i : Nat) (hi : ops[i]? = some ⟨some t, op, ty, pos, af, none⟩) (hs : Region.noSelect ops = true) (hfr : Region.free .any ops listed i = true) (hr : (Region.ready .any ops listed).contains i = true)
    (ht : Nat.blt t n = true) (h : Ev P w0 Cs H0 e op ty v) (k : Any P n ops w0 Cs H0 fuel (listed.setIfInBounds i true) H (upd e t v) K) : Any P n ops w0 Cs H0 (fuel + 1) listed H e K := by
  intro a w hf hw hp
  refine wpAnyH_take hi hs hfr hr (fun c a w h => by cases h.1) ?_ (hw.part hp) (k _ w (hf.put ht v) hw hp)
  refine .inl ⟨wanted_none rfl _, fun w hw => ?_⟩
  rw [hf.eval]
  exact h w hw _ _ _ _
theorem Any.gy (i : Nat) {g : Nat × Bool} {d : Nat} (hi : ops[i]? = some ⟨some t, op, ty, pos, af, some g⟩) (hs : Region.noSelect ops = true) (hfr : Region.free .any ops listed i = true) (hr : (Region.ready .any ops listed).contains i = true)
    (hd : (ops[g.1]?).bind (·.dst) = some d) (hn : Nat.blt d n = true) (hg : e d = .bool g.2)
    (ht : Nat.blt t n = true) (h : Ev P w0 Cs H0 e op ty v) (k : Any P n ops w0 Cs H0 fuel (listed.setIfInBounds i true) H (upd e t v) K) : Any P n ops w0 Cs H0 (fuel + 1) listed H e K := by
  intro a w hf hw hp
  have hy := hf.yielded hd hg hn
  refine wpAnyH_take hi hs hfr hr (fun c a w h => by cases h.1) ?_ (hw.part hp) (k _ w (hf.put ht v) hw hp)
  refine .inl ⟨by simp [Region.wanted, hy], fun w hw => ?_⟩
  rw [hf.eval]
  exact h w hw _ _ _ _
theorem Any.gn (i : Nat) {g : Nat × Bool} {d : Nat} (hi : ops[i]? = some ⟨some t, op, ty, pos, af, some g⟩) (hs : Region.noSelect ops = true) (hfr : Region.free .any ops listed i = true) (hr : (Region.ready .any ops listed).contains i = true)
    (hd : (ops[g.1]?).bind (·.dst) = some d) (hn : Nat.blt d n = true) (hg : e d = .bool (!g.2))
    (ht : Nat.blt t n = true) (k : Any P n ops w0 Cs H0 fuel (listed.setIfInBounds i true) H (upd e t undef) K) : Any P n ops w0 Cs H0 (fuel + 1) listed H e K := by
  intro a w hf hw hp
  have hy := hf.yielded hd hg hn
  refine wpAnyH_take hi hs hfr hr (fun c a w h => by cases h.1) ?_ (hw.part hp) (k _ w (hf.put ht undef) hw hp)
  exact .inr ⟨by simp [Region.wanted, hy], rfl⟩
theorem Any.gu (i : Nat) {g : Nat × Bool} {d : Nat} (hi : ops[i]? = some ⟨some t, op, ty, pos, af, some g⟩) (hs : Region.noSelect ops = true) (hfr : Region.free .any ops listed i = true) (hr : (Region.ready .any ops listed).contains i = true)
    (hd : (ops[g.1]?).bind (·.dst) = some d) (hg : e d = undef)
    (ht : Nat.blt t n = true) (k : Any P n ops w0 Cs H0 fuel (listed.setIfInBounds i true) H (upd e t undef) K) : Any P n ops w0 Cs H0 (fuel + 1) listed H e K := by
  intro a w hf hw hp
  have hy := yielded_undef (ops := ops) hf hd hg
  refine wpAnyH_take hi hs hfr hr (fun c a w h => by cases h.1) ?_ (hw.part hp) (k _ w (hf.put ht undef) hw hp)
  exact .inr ⟨by simp [Region.wanted, hy], rfl⟩
theorem wpOp_of_wpList {Q : Exit → Act → World → Prop} {i : Nat} {o : Oper} (hi : ops[i]? = some o) (hQ : ∀ x a w, Q x a w → x = .normal) {a : Act} {w : World} (h : wpList P ops Q [o] a w) {Q' : Exit → Act → World → Prop} : wpOp P ops Q' i (Q .normal) a w := by
  unfold wpOp
  rw [hi]
  simp only [wpList] at h
  simp only
  have hout : ¬ LetsOut Q := by
    rintro ⟨a, w, hq⟩
    have := hQ _ _ _ hq
    cases this
  split
  · rename_i hw
    rw [if_pos hw] at h
    rcases h with h | h
    · left
      unfold Oper.wp at h ⊢
      generalize (execOp a.eval o).run P w = r at h
      cases r with
      | ok nx w' =>
        cases nx <;> simp only [Oper.upon] at h ⊢ <;> try exact h
        refine h.mono ?_
        intro en w'' hen
        cases en with
        | returned v => exact hen
        | panicked c => have := hQ _ _ _ hen; cases this
        | outgrown => exact absurd hen hout
      | halt x w' =>
        cases x <;> simp only [Oper.upon] at h ⊢ <;> try exact h
        have := hQ _ _ _ h
        cases this
    · exact absurd h.2 hout
  · rename_i hw
    rw [if_neg hw] at h
    exact h
/-- One operation alone may come up: it is walked as one in order. -/
theorem Any.one (i : Nat) {o : Oper} (hi : ops[i]? = some o) (hr : Region.ready .any ops listed = [i])
    (h : Seq P n ops w0 Cs [o] H e (fun e' H' => Part H0 H' ∧ Any P n ops w0 Cs H0 fuel (listed.setIfInBounds i true) H' e' K)) : Any P n ops w0 Cs H0 (fuel + 1) listed H e K := by
  intro a w hf hw hp
  refine wpAnyH_all hr (by simp) ?_
  intro j hj
  have hj' : j = i := by simpa using hj
  subst hj'
  have h2 := h a w hf hw
  have h3 := wpOp_of_wpList hi (fun x a w h => h.1) h2 (Q' := fun x a' w' => x = .normal ∧ ∃ e' H', Fits n e' a' ∧ Upd w0 w' Cs H' ∧ K e' H')
  refine wpOp_mono ?_ h3
  rintro a' w' ⟨_, e', H', h4, h5, h6, h7⟩
  exact ⟨h5.part h6, h7 a' w' h4 h5 h6⟩
/-- Two operations may come up, either first. -/
theorem Any.two (i j : Nat) {o o' : Oper} (hi : ops[i]? = some o) (hj : ops[j]? = some o') (hr : Region.ready .any ops listed = [i, j])
    (h : Seq P n ops w0 Cs [o] H e (fun e' H' => Part H0 H' ∧ Any P n ops w0 Cs H0 fuel (listed.setIfInBounds i true) H' e' K))
    (h' : Seq P n ops w0 Cs [o'] H e (fun e' H' => Part H0 H' ∧ Any P n ops w0 Cs H0 fuel (listed.setIfInBounds j true) H' e' K)) : Any P n ops w0 Cs H0 (fuel + 1) listed H e K := by
  have key : ∀ (m : Nat) (oo : Oper), ops[m]? = some oo → Seq P n ops w0 Cs [oo] H e (fun e' H' => Part H0 H' ∧ Any P n ops w0 Cs H0 fuel (listed.setIfInBounds m true) H' e' K) → ∀ a w, Fits n e a → Upd w0 w Cs H →
      wpOp P ops (fun x a' w' => x = .normal ∧ ∃ e' H', Fits n e' a' ∧ Upd w0 w' Cs H' ∧ K e' H') m (fun a' w' => Upd w0 w' Cs H0 ∧ wpAnyH P .any ops (fun x a' w' => x = .normal ∧ ∃ e' H', Fits n e' a' ∧ Upd w0 w' Cs H' ∧ K e' H') (fun w => Upd w0 w Cs H0) fuel (listed.setIfInBounds m true) a' w') a w := by
    intro m oo hm h a w hf hw
    have h2 := h a w hf hw
    have h3 := wpOp_of_wpList hm (fun x a w h => h.1) h2 (Q' := fun x a' w' => x = .normal ∧ ∃ e' H', Fits n e' a' ∧ Upd w0 w' Cs H' ∧ K e' H')
    refine wpOp_mono ?_ h3
    rintro a' w' ⟨_, e', H', h4, h5, h6, h7⟩
    exact ⟨h5.part h6, h7 a' w' h4 h5 h6⟩
  intro a w hf hw hp
  refine wpAnyH_all hr (by simp) ?_
  intro m hm
  have hm' : m = i ∨ m = j := by simpa using hm
  rcases hm' with rfl | rfl
  · exact key _ _ hi h a w hf hw
  · exact key _ _ hj h' a w hf hw
theorem JC.any {id : Nat} {l : List Oper} {Q : Exit → Env → List Chunk → Prop} (hm : P.follows .mixedOrders = true) (h : Any P n l.toArray w0 Cs H l.toArray.size (Array.replicate l.toArray.size false) H e (fun e' H' => Q .normal e' H')) :
    JC P n w0 Cs (.region id l.toArray true) H e Q := by
  intro a w hf hw
  refine wp_mono (wp_region_held (S := fun w => Upd w0 w Cs H) hm (h a _ hf hw.drawn (Part.refl _))) ?_
  rintro ex a' w' ⟨rfl, e', H', h1, h2, h3⟩
  exact ⟨e', H', h1, h2, h3⟩
theorem JC.as {id : Nat} {l : List Oper} {y : Code} {Q : Exit → Env → List Chunk → Prop} (hm : P.follows .mixedOrders = true) (h : Any P n l.toArray w0 Cs H l.toArray.size (Array.replicate l.toArray.size false) H e (fun e' H' => JC P n w0 Cs y H' e' Q)) :
    JC P n w0 Cs (.seq (.region id l.toArray true) y) H e Q := JC.seq (JC.any hm h)
theorem JC.asE {id : Nat} {l : List Oper} {y : Code} {Q : Exit → Env → List Chunk → Prop} (i : Nat) (hm : P.follows .mixedOrders = true) (h : Any P n l.toArray w0 Cs (H.eraseIdx i) l.toArray.size (Array.replicate l.toArray.size false) H e (fun e' H' => JC P n w0 Cs y H' e' Q)) :
    JC P n w0 Cs (.seq (.region id l.toArray true) y) H e Q := by
  refine JC.seq ?_
  intro a w hf hw
  have hp : Part (H.eraseIdx i) H := by
    by_cases hi : i < H.length
    · exact ⟨[H[i]], List.perm_append_comm.trans (At.perm (c := H[i]) ⟨by simp [hi]⟩)⟩
    · rw [List.eraseIdx_of_length_le (by omega)]
      exact Part.refl _
  refine wp_mono (wp_region_held (S := fun w => Upd w0 w Cs (H.eraseIdx i)) hm (h a _ hf hw.drawn hp)) ?_
  rintro ex a' w' ⟨rfl, e', H', h1, h2, h3⟩
  exact ⟨e', H', h1, h2, h3⟩
theorem JC.anyE {id : Nat} {l : List Oper} {Q : Exit → Env → List Chunk → Prop} (i : Nat) (hm : P.follows .mixedOrders = true) (h : Any P n l.toArray w0 Cs (H.eraseIdx i) l.toArray.size (Array.replicate l.toArray.size false) H e (fun e' H' => Q .normal e' H')) :
    JC P n w0 Cs (.region id l.toArray true) H e Q := by
  intro a w hf hw
  have hp : Part (H.eraseIdx i) H := by
    by_cases hi : i < H.length
    · exact ⟨[H[i]], List.perm_append_comm.trans (At.perm (c := H[i]) ⟨by simp [hi]⟩)⟩
    · rw [List.eraseIdx_of_length_le (by omega)]
      exact Part.refl _
  refine wp_mono (wp_region_held (S := fun w => Upd w0 w Cs (H.eraseIdx i)) hm (h a _ hf hw.drawn hp)) ?_
  rintro ex a' w' ⟨rfl, e', H', h1, h2, h3⟩
  exact ⟨e', H', h1, h2, h3⟩
theorem Any.split {d : Nat} {b : Bool} (hd : Look e (.tmp d) (.bool b) := by repeat (first | exact Look.here | apply Look.there (hne := rfl) | exact Look.const | apply Look.mix rfl | exact Look.arg0 | apply Look.args | exact Look.func)) (k : ∀ c : Bool, b = c → Any P n ops w0 Cs H0 fuel listed H (upd e d (.bool c)) K) : Any P n ops w0 Cs H0 fuel listed H e K := by
  have h := k b rfl
  have he : upd e d (.bool b) = e := by
    funext j
    by_cases hj : j = d
    · subst hj; rw [upd_same]; exact hd.eq.symm
    · rw [upd_ne _ _ hj]
  rwa [he] at h
theorem RAt.up {α : Type} [Inhabited α] {enc : α → List Value} {sz : Nat} {v : Value} {xs : List α} (h : RAt w0 Cs H enc sz v xs) {w : World} (hw : Upd w0 w Cs H) : RSl enc sz w [] v xs := by
  obtain ⟨C, hC⟩ := h w hw
  exact hC.part (Part.nil _)
theorem RSl.empty {α : Type} [Inhabited α] (enc : α → List Value) (sz : Nat) (w : World) (C : List Chunk) : RSl enc sz w C (.slice none 0 0) [] :=
  ⟨⟨none, 0, rfl, Nat.le_refl _, fun _ => rfl⟩, by simp, by simp, fun i hi => by simp at hi⟩
end
end Go.Rx
