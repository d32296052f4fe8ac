/- The rule layer, ninth part: a region that draws its order, some of whose operations make memory: what only computes or reads (calls too) is taken first, wherever it stands; of the others one alone, or either of two, may come up at a time. -/
import Derived.Test.YtcggppjpnepoiaaDoorRxEq
import Derived.OrdersHeld
namespace Go.Rx
open Go Go.RowKit
set_option linter.unusedVariables false
set_option linter.unusedSimpArgs false
theorem upon_change {P : Program} {o : Oper} {a : Act} {next next' : Act → World → Prop} {Q Q' : Exit → Act → World → Prop} {r : Result Next} (hQ : ∀ x a w, Q x a w → x = .normal) (hn : ∀ a w, next a w → next' a w) (h : o.upon P a next Q r) : o.upon P a next' Q' r := by
  have hout : ¬ LetsOut Q := by
    rintro ⟨a, w, hq⟩
    have := hQ _ _ _ hq
    cases this
  cases r with
  | ok nx w' =>
    cases nx <;> simp only [Oper.upon] at h ⊢ <;> first | exact hn _ _ h | exact h | skip
    · refine h.mono ?_
      intro en w'' hen
      cases en with
      | returned v => exact hn _ _ hen
      | panicked c => have := hQ _ _ _ hen; cases this
      | outgrown => exact absurd hen hout
    · exact h.mono fun v w' hv => hn _ _ hv
  | halt x w' =>
    cases x <;> simp only [Oper.upon] at h ⊢ <;> try exact h
    have := hQ _ _ _ h
    cases this
/-- No exit but the normal one. -/
def Q0 : Exit → Act → World → Prop := fun _ _ _ => False
theorem Q0_out : ¬ LetsOut Q0 := fun ⟨_, _, h⟩ => h
/-- What a quiet operation does in the world w: it hands back v; the world may have grown. -/
def quietRes (P : Program) (w : World) (v : Value) : Result Next → Prop
  | .ok (.value u) w' => u = v ∧ w' = w
  | .ok (.enter f args) w' => w' = w ∧ Calls P f args w fun e w'' => e = .returned v ∧ Upd w w'' [] []
  | _ => False
section
variable (P : Program) (n : Nat) (ops : Array Oper) (w0 : World) (Cs H0 : List Chunk) (K : Env → List Chunk → Prop)
def QA (o : Oper) (v : Value) (a : Act) : Prop :=
  (Region.wanted o (yielded ops a.tmps) = true ∧ ∀ w, Upd w0 w Cs H0 → quietRes P w v ((execOp a.eval o).run P w)) ∨ (Region.wanted o (yielded ops a.tmps) = false ∧ v = undef)
def AnyW : Nat → Array Bool → List Chunk → Env → Prop
  | 0, listed, H, e => Region.ready .any ops listed = [] ∧ K e H
  | f + 1, listed, H, e => (Region.ready .any ops listed = [] → K e H) ∧ ∀ i ∈ Region.ready .any ops listed, ∀ a w, Fits n e a → Upd w0 w Cs H →
      wpOp P ops Q0 i (fun a' w' => ∃ e' H', Fits n e' a' ∧ Upd w0 w' Cs H' ∧ Part H0 H' ∧ AnyW f (listed.setIfInBounds i true) H' e') a w
end
def Any (P : Program) (n : Nat) (ops : Array Oper) (w0 : World) (Cs H0 : List Chunk) (fuel : Nat) (listed : Array Bool) (H : List Chunk) (e : Env) (K : Env → List Chunk → Prop) : Prop :=
  Part H0 H → AnyW P n ops w0 Cs H0 K fuel listed H e
section
variable {P : Program} {n : Nat} {ops : Array Oper} {w0 : World} {Cs H0 H : List Chunk} {e : Env} {K : Env → List Chunk → Prop} {fuel : Nat} {listed : Array Bool}
  {t : Nat} {op : Op} {ty : TypeId} {pos : String} {af : Array Edge} {v : Value}
theorem QA.of_same {o : Oper} {a a' : Act} (hy : QA P ops w0 Cs H0 o v a) (he : execOp a'.eval o = execOp a.eval o) (hw : Region.wanted o (yielded ops a'.tmps) = Region.wanted o (yielded ops a.tmps)) : QA P ops w0 Cs H0 o v a' := by
  unfold QA at *
  rw [he, hw]
  exact hy
theorem QA.wpOp {i : Nat} {o : Oper} {a : Act} (hi : ops[i]? = some o) (hy : QA P ops w0 Cs H0 o v a) {w : World} (hS : Upd w0 w Cs H0) {k : Act → World → Prop} (h : ∀ w', Upd w w' [] [] → k (a.put o.dst v) w') : wpOp P ops Q0 i k a w := by
  unfold Go.wpOp
  simp only [hi]
  rcases hy with ⟨hw, hv⟩ | ⟨hw, rfl⟩
  · simp only [hw, if_true]
    refine .inl ?_
    unfold Oper.wp
    have hq := hv w hS
    generalize (execOp a.eval o).run P w = r at hq
    cases r with
    | ok nx w' =>
      cases nx <;> simp only [quietRes] at hq <;> simp only [Oper.upon]
      · obtain ⟨rfl, rfl⟩ := hq
        exact h _ (Upd.refl0 _)
      · obtain ⟨rfl, hc⟩ := hq
        refine hc.mono ?_
        rintro en w'' ⟨rfl, hu⟩
        exact h _ hu
    | halt x w' => exact hq.elim
  · simp only [hw, Bool.false_eq_true, if_false]
    exact h _ (Upd.refl0 _)
theorem wpOp_putQ {j : Nat} {oi oj : Oper} (hj : ops[j]? = some oj) (hap : oi.apart ops oj = true) (hsi : ∀ cs b, oi.op ≠ .select cs b) (hsj : ∀ cs b, oj.op ≠ .select cs b)
    {k : Act → World → Prop} {a : Act} {w : World} (hy : QA P ops w0 Cs H0 oi v a) (h : wpOp P ops Q0 j k (a.put oi.dst v) w) :
    wpOp P ops Q0 j (fun a' w' => QA P ops w0 Cs H0 oi v a' ∧ k (a'.put oi.dst v) w') a w := by
  obtain ⟨h1, h2, h3⟩ := Oper.apart_spec hap
  have keep : ∀ (a : Act), QA P ops w0 Cs H0 oi v a → ∀ u, QA P ops w0 Cs H0 oi v (a.put oj.dst u) := fun a hy u =>
    hy.of_same (execOp_put oi hsi a oj.dst u h3) (wanted_put oi a oj.dst u h3)
  have keepD : ∀ d, QA P ops w0 Cs H0 oi v { a with defers := d :: a.defers } := fun d => hy.of_same rfl rfl
  unfold wpOp at *
  simp only [hj] at *
  rw [wanted_put oj a oi.dst v h1] at h
  split
  · rename_i hw
    simp only [hw, if_true] at h
    rcases h with h | ⟨_, hlets⟩
    case inr => exact absurd hlets Q0_out
    refine .inl ?_
    unfold Oper.wp at *
    rw [execOp_put oj hsj a oi.dst v h1] at h
    generalize (execOp a.eval oj).run P w = r at *
    cases r with
    | ok n w' =>
      cases n <;> simp only [Oper.upon] at h ⊢
      case value u => exact ⟨keep a hy u, by rw [← Act.put_comm a v u h2]; exact h⟩
      case skip => exact ⟨keep a hy _, by rw [← Act.put_comm a v undef h2]; exact h⟩
      case defer d =>
        refine ⟨keep _ (keepD d) _, ?_⟩
        rw [← Act.put_comm _ v undef h2, ← Act.put_defers]
        exact h
      case enter f args =>
        refine Calls.mono h fun e w'' he => ?_
        cases e with
        | returned u => exact ⟨keep a hy u, by rw [← Act.put_comm a v u h2]; exact he⟩
        | panicked c => exact he.elim
        | outgrown => exact absurd he Q0_out
      case row row args => exact Rows.mono h fun u w'' he => ⟨keep a hy u, by rw [← Act.put_comm a v u h2]; exact he⟩
    | halt x w' =>
      cases x <;> simp only [Oper.upon] at h ⊢
      case panic u => exact h.elim
  · rename_i hw
    simp only [hw] at h
    exact ⟨keep a hy _, by rw [← Act.put_comm a v undef h2]; exact h⟩
theorem Fits.same {e : Env} {a b : Act} (ha : Fits n e a) (hb : Fits n e b) : a.tmps = b.tmps := by
  apply Array.ext
  · rw [ha.size, hb.size]
  · intro j h1 h2
    have e1 := ha.at_ j
    have e2 := hb.at_ j
    simp [h1] at e1
    simp [h2] at e2
    rw [e1, e2]
theorem Upd.grow {w w' : World} (hw : Upd w0 w Cs H) (hu : Upd w w' [] []) : Upd w0 w' Cs H := Upd.step (Gs := []) (H' := []) hw hu
theorem Upd.draws {w : World} {H0 : List Chunk} (hw : Upd w0 w Cs H) (hp : Part H0 H) : Upd w0 w Cs H0 := hw.part hp
theorem AnyW.first {i : Nat} {oi : Oper} (hi : ops[i]? = some oi) (hd : oi.dst = some t) (ht : Nat.blt t n = true) (hsel : ∀ (j : Nat) (o : Oper) cs b, ops[j]? = some o → o.op ≠ .select cs b) :
    ∀ (fuel : Nat) (listed : Array Bool) (H : List Chunk) (e : Env),
      (∀ j oj, ops[j]? = some oj → j ≠ i → listed.getD j true = false → (∀ e ∈ oj.after, Region.binds .any e = true → e.on ≠ i) → oi.apart ops oj = true) →
      i ∈ Region.ready .any ops listed → (∀ a, Fits n e a → QA P ops w0 Cs H0 oi v a) → Part H0 H →
      AnyW P n ops w0 Cs H0 K fuel (listed.setIfInBounds i true) H (upd e t v) → AnyW P n ops w0 Cs H0 K (fuel + 1) listed H e := by
  intro fuel
  induction fuel with
  | zero =>
    intro listed H e _ hr hy hp h
    refine ⟨fun h0 => (by rw [h0] at hr; cases hr), fun j hj a w hf hw => ?_⟩
    by_cases hji : j = i
    · subst hji
      refine (hy a hf).wpOp hi (hw.part hp) fun w' hu => ?_
      rw [hd]
      exact ⟨_, H, hf.put ht v, hw.grow hu, hp, h⟩
    · have := ready_mono hj hji
      rw [h.1] at this
      cases this
  | succ fuel ih =>
    intro listed H e hfree hr hy hp h
    refine ⟨fun h0 => (by rw [h0] at hr; cases hr), fun j hj a w hf hw => ?_⟩
    by_cases hji : j = i
    · subst hji
      refine (hy a hf).wpOp hi (hw.part hp) fun w' hu => ?_
      rw [hd]
      exact ⟨_, H, hf.put ht v, hw.grow hu, hp, h⟩
    · have h1 := h.2 j (ready_mono hj hji) _ w (hf.put ht v) hw
      obtain ⟨hjun, oj, hoj, hall⟩ := mem_ready.1 hj
      have hnot : ∀ e ∈ oj.after, Region.binds .any e = true → e.on ≠ i := fun e he hb heq => by
        have h1 := hall e he hb
        have h0 := (mem_ready.1 hr).1
        rw [heq] at h1
        rcases Nat.lt_or_ge i listed.size with h' | h'
        · simp [h'] at h0 h1; rw [h0] at h1; cases h1
        · simp [Array.getElem?_eq_none h'] at h1
      have h2 := wpOp_putQ (v := v) hoj (hfree j oj hoj hji hjun hnot) (fun cs b => hsel i oi cs b hi) (fun cs b => hsel j oj cs b hoj) (hy a hf) (by rw [hd]; exact h1)
      have hfree' : ∀ k ok, ops[k]? = some ok → k ≠ i → (listed.setIfInBounds j true).getD k true = false →
          (∀ e ∈ ok.after, Region.binds .any e = true → e.on ≠ i) → oi.apart ops ok = true := fun k ok hk hki hun hno => by
        refine hfree k ok hk hki ?_ hno
        by_cases hjk : j = k
        · subst hjk; exact hjun
        · rw [getD_set_ne true hjk] at hun; exact hun
      refine wpOp_mono ?_ h2
      rintro a' w' ⟨hq, e', H', hf', hw', hp', hk'⟩
      rw [hd] at hf'
      have hsz : a'.tmps.size = n := by have := hf'.size; simpa [Act.put] using this
      have hf2 : Fits n (fun k => a'.tmps.getD k undef) a' := ⟨hsz, fun _ => rfl, by have := hf'.defers; simpa [Act.put] using this⟩
      have he : e' = upd (fun k => a'.tmps.getD k undef) t v := by
        funext k
        rw [← hf'.at_ k, ← (hf2.put ht v).at_ k]
      refine ⟨_, H', hf2, hw', hp', ih (listed.setIfInBounds j true) H' _ hfree' (ready_mono hr (Ne.symm hji)) ?_ hp' ?_⟩
      · intro b hb
        refine hq.of_same ?_ ?_
        · rw [hb.eval, hf2.eval]
        · rw [hb.same hf2]
      · rw [Array.setIfInBounds_comm _ _ hji, ← he]
        exact hk'
theorem AnyW.take (i : Nat) {oi : Oper} (hi : ops[i]? = some oi) (hd : oi.dst = some t) (ht : Nat.blt t n = true) (hs : Region.noSelect ops = true) (hfr : Region.free .any ops listed i = true) (hr : (Region.ready .any ops listed).contains i = true)
    (hq : ∀ a, Fits n e a → QA P ops w0 Cs H0 oi v a) (k : Any P n ops w0 Cs H0 fuel (listed.setIfInBounds i true) H (upd e t v) K) : Any P n ops w0 Cs H0 (fuel + 1) listed H e K :=
  fun hp => AnyW.first hi hd ht (Region.noSelect_spec hs) fuel listed H e (Region.free_spec hi hfr) (by simpa using hr) hq hp (k hp)
theorem Any.done (hr : Region.ready .any ops listed = []) (h : K e H) : Any P n ops w0 Cs H0 fuel listed H e K := by
  intro _
  cases fuel with
  | zero => exact ⟨hr, h⟩
  | succ f => exact ⟨fun _ => h, by rw [hr]; simp⟩
/-- What only computes or reads is taken first. -/
theorem Any.p (i : Nat) (hi : ops[i]? = some ⟨some t, op, ty, pos, af, none⟩) (hs : Region.noSelect ops = true) (hfr : Region.free .any ops listed i = true) (hr : (Region.ready .any ops listed).contains i = true)
    (ht : Nat.blt t n = true) (h : Ev P w0 Cs H0 e op ty v) (k : Any P n ops w0 Cs H0 fuel (listed.setIfInBounds i true) H (upd e t v) K) : Any P n ops w0 Cs H0 (fuel + 1) listed H e K := by
  refine AnyW.take i hi rfl ht hs hfr hr (fun a hf => .inl ⟨wanted_none rfl _, fun w hw => ?_⟩) k
  rw [hf.eval, h w hw]
  exact ⟨rfl, rfl⟩
theorem Any.gy (i : Nat) {g : Nat × Bool} {d : Nat} (hi : ops[i]? = some ⟨some t, op, ty, pos, af, some g⟩) (hs : Region.noSelect ops = true) (hfr : Region.free .any ops listed i = true) (hr : (Region.ready .any ops listed).contains i = true)
    (hd : (ops[g.1]?).bind (·.dst) = some d) (hn : Nat.blt d n = true) (hg : e d = .bool g.2)
    (ht : Nat.blt t n = true) (h : Ev P w0 Cs H0 e op ty v) (k : Any P n ops w0 Cs H0 fuel (listed.setIfInBounds i true) H (upd e t v) K) : Any P n ops w0 Cs H0 (fuel + 1) listed H e K := by
  refine AnyW.take i hi rfl ht hs hfr hr (fun a hf => .inl ⟨by simp [Region.wanted, hf.yielded hd hg hn], fun w hw => ?_⟩) k
  rw [hf.eval, h w hw]
  exact ⟨rfl, rfl⟩
theorem Any.gn (i : Nat) {g : Nat × Bool} {d : Nat} (hi : ops[i]? = some ⟨some t, op, ty, pos, af, some g⟩) (hs : Region.noSelect ops = true) (hfr : Region.free .any ops listed i = true) (hr : (Region.ready .any ops listed).contains i = true)
    (hd : (ops[g.1]?).bind (·.dst) = some d) (hn : Nat.blt d n = true) (hg : e d = .bool (!g.2))
    (ht : Nat.blt t n = true) (k : Any P n ops w0 Cs H0 fuel (listed.setIfInBounds i true) H (upd e t undef) K) : Any P n ops w0 Cs H0 (fuel + 1) listed H e K :=
  AnyW.take i hi rfl ht hs hfr hr (fun a hf => .inr ⟨by simp [Region.wanted, hf.yielded hd hg hn], rfl⟩) k
theorem Any.gu (i : Nat) {g : Nat × Bool} {d : Nat} (hi : ops[i]? = some ⟨some t, op, ty, pos, af, some g⟩) (hs : Region.noSelect ops = true) (hfr : Region.free .any ops listed i = true) (hr : (Region.ready .any ops listed).contains i = true)
    (hd : (ops[g.1]?).bind (·.dst) = some d) (hg : e d = undef)
    (ht : Nat.blt t n = true) (k : Any P n ops w0 Cs H0 fuel (listed.setIfInBounds i true) H (upd e t undef) K) : Any P n ops w0 Cs H0 (fuel + 1) listed H e K :=
  AnyW.take i hi rfl ht hs hfr hr (fun a hf => .inr ⟨by simp [Region.wanted, yielded_undef (ops := ops) hf hd hg], rfl⟩) k
/-- A call that hands back one known value, and of whose memory nothing is asked, is taken first. -/
theorem quiet_call {f : FuncId} {as : List Operand} {ats : Array TypeId} {g : Option (Nat × Bool)} (hs : ∀ w, Upd w0 w Cs H0 → Spec P f (as.map (ev e)).toArray w [] (fun u _ => u = v)) {a : Act} (hf : Fits n e a) {w : World} (hw : Upd w0 w Cs H0) :
    quietRes P w v ((execOp a.eval ⟨some t, .call ⟨.value (.func f), as.toArray, ats⟩, ty, pos, af, g⟩).run P w) := by
  obtain ⟨hent, hc⟩ := hs w hw
  rw [hf.eval, run_enter hent (ev e) (.func f) #[] #[] rfl]
  refine ⟨rfl, ?_⟩
  simp only [Array.append_empty, Array.empty_append]
  refine hc.mono ?_
  rintro en w' ⟨u, H', rfl, hu, rfl⟩
  exact ⟨rfl, hu.part (Part.nil _)⟩
theorem Any.call (i : Nat) {f : FuncId} {as : List Operand} {ats : Array TypeId} (hi : ops[i]? = some ⟨some t, .call ⟨.value (.func f), as.toArray, ats⟩, ty, pos, af, none⟩) (hs : Region.noSelect ops = true) (hfr : Region.free .any ops listed i = true) (hr : (Region.ready .any ops listed).contains i = true)
    (ht : Nat.blt t n = true) (h : ∀ w, Upd w0 w Cs H0 → Spec P f (as.map (ev e)).toArray w [] (fun u _ => u = v)) (k : Any P n ops w0 Cs H0 fuel (listed.setIfInBounds i true) H (upd e t v) K) : Any P n ops w0 Cs H0 (fuel + 1) listed H e K :=
  AnyW.take i hi rfl ht hs hfr hr (fun a hf => .inl ⟨wanted_none rfl _, fun w hw => quiet_call h hf hw⟩) k
theorem Any.callgy (i : Nat) {f : FuncId} {as : List Operand} {ats : Array TypeId} {g : Nat × Bool} {d : Nat} (hi : ops[i]? = some ⟨some t, .call ⟨.value (.func f), as.toArray, ats⟩, ty, pos, af, some g⟩) (hs : Region.noSelect ops = true) (hfr : Region.free .any ops listed i = true) (hr : (Region.ready .any ops listed).contains i = true)
    (hd : (ops[g.1]?).bind (·.dst) = some d) (hn : Nat.blt d n = true) (hg : e d = .bool g.2)
    (ht : Nat.blt t n = true) (h : ∀ w, Upd w0 w Cs H0 → Spec P f (as.map (ev e)).toArray w [] (fun u _ => u = v)) (k : Any P n ops w0 Cs H0 fuel (listed.setIfInBounds i true) H (upd e t v) K) : Any P n ops w0 Cs H0 (fuel + 1) listed H e K :=
  AnyW.take i hi rfl ht hs hfr hr (fun a hf => .inl ⟨by simp [Region.wanted, hf.yielded hd hg hn], fun w hw => quiet_call h hf hw⟩) k
theorem wpOp_of_wpList {Q Q' : Exit → Act → World → Prop} {i : Nat} {o : Oper} (hi : ops[i]? = some o) (hQ : ∀ x a w, Q x a w → x = .normal) {a : Act} {w : World} (h : wpList P ops Q [o] a w) : wpOp P ops Q' i (Q .normal) a w := by
  unfold wpOp
  rw [hi]
  simp only [wpList] at h
  simp only
  have hout : ¬ LetsOut Q := by
    rintro ⟨a, w, hq⟩
    have := hQ _ _ _ hq
    cases this
  split
  · rename_i hw
    rw [if_pos hw] at h
    rcases h with h | h
    · exact .inl (upon_change hQ (fun _ _ h => h) h)
    · exact absurd h.2 hout
  · rename_i hw
    rw [if_neg hw] at h
    exact h
theorem AnyW.at_ {m : Nat} {o : Oper} (hm : ops[m]? = some o) (h : Seq P n ops w0 Cs [o] H e (fun e' H' => Part H0 H' ∧ Any P n ops w0 Cs H0 fuel (listed.setIfInBounds m true) H' e' K)) {a : Act} {w : World} (hf : Fits n e a) (hw : Upd w0 w Cs H) :
    wpOp P ops Q0 m (fun a' w' => ∃ e' H', Fits n e' a' ∧ Upd w0 w' Cs H' ∧ Part H0 H' ∧ AnyW P n ops w0 Cs H0 K fuel (listed.setIfInBounds m true) H' e') a w := by
  have h3 := wpOp_of_wpList (Q' := Q0) hm (fun x a w h => h.1) (h a w hf hw)
  refine wpOp_mono ?_ h3
  rintro a' w' ⟨_, e', H', h4, h5, h6, h7⟩
  exact ⟨e', H', h4, h5, h6, h7 h6⟩
/-- One operation alone may come up: it is walked as one in order. -/
theorem Any.one (i : Nat) {o : Oper} (hi : ops[i]? = some o) (hr : Region.ready .any ops listed = [i])
    (h : Seq P n ops w0 Cs [o] H e (fun e' H' => Part H0 H' ∧ Any P n ops w0 Cs H0 fuel (listed.setIfInBounds i true) H' e' K)) : Any P n ops w0 Cs H0 (fuel + 1) listed H e K := by
  intro hp
  refine ⟨fun h0 => (by rw [hr] at h0; cases h0), fun j hj a w hf hw => ?_⟩
  rw [hr] at hj
  have hj' : j = i := by simpa using hj
  subst hj'
  exact AnyW.at_ hi h hf hw
/-- Two operations may come up, either first. -/
theorem Any.two (i j : Nat) {o o' : Oper} (hi : ops[i]? = some o) (hj : ops[j]? = some o') (hr : Region.ready .any ops listed = [i, j])
    (h : Seq P n ops w0 Cs [o] H e (fun e' H' => Part H0 H' ∧ Any P n ops w0 Cs H0 fuel (listed.setIfInBounds i true) H' e' K))
    (h' : Seq P n ops w0 Cs [o'] H e (fun e' H' => Part H0 H' ∧ Any P n ops w0 Cs H0 fuel (listed.setIfInBounds j true) H' e' K)) : Any P n ops w0 Cs H0 (fuel + 1) listed H e K := by
  intro hp
  refine ⟨fun h0 => (by rw [hr] at h0; cases h0), fun m hm a w hf hw => ?_⟩
  rw [hr] at hm
  have hm' : m = i ∨ m = j := by simpa using hm
  rcases hm' with rfl | rfl
  · exact AnyW.at_ hi h hf hw
  · exact AnyW.at_ hj h' hf hw
theorem AnyW.wp : ∀ (fuel : Nat) (listed : Array Bool) (H : List Chunk) (e : Env), AnyW P n ops w0 Cs H0 K fuel listed H e → ∀ a w, Fits n e a → Upd w0 w Cs H →
    wpAny P .any ops (fun x a' w' => x = .normal ∧ ∃ e' H', Fits n e' a' ∧ Upd w0 w' Cs H' ∧ K e' H') fuel listed a w
  | 0, listed, H, e, h, a, w, hf, hw => ⟨h.1, rfl, e, H, hf, hw, h.2⟩
  | f + 1, listed, H, e, h, a, w, hf, hw => by
    refine ⟨fun h0 => ⟨rfl, e, H, hf, hw, h.1 h0⟩, fun i hi => ?_⟩
    have h2 := h.2 i hi a w hf hw
    have h3 : wpOp P ops Q0 i (wpAny P .any ops (fun x a' w' => x = .normal ∧ ∃ e' H', Fits n e' a' ∧ Upd w0 w' Cs H' ∧ K e' H') f (listed.setIfInBounds i true)) a w := by
      refine wpOp_mono ?_ h2
      rintro a' w' ⟨e', H', h4, h5, _, h7⟩
      exact AnyW.wp f _ H' e' h7 a' w' h4 h5
    unfold wpOp at h3 ⊢
    cases ho : ops[i]? with
    | none =>
      rw [ho] at h3
      exact h3
    | some o =>
      rw [ho] at h3
      simp only at h3 ⊢
      split
      · rename_i hwt
        rw [if_pos hwt] at h3
        rcases h3 with h3 | ⟨_, h3⟩
        · exact .inl (upon_change (fun _ _ _ h => h.elim) (fun _ _ h => h) h3)
        · exact absurd h3 Q0_out
      · rename_i hwt
        rw [if_neg hwt] at h3
        exact h3
theorem JC.anyP {id : Nat} {l : List Oper} {Q : Exit → Env → List Chunk → Prop} (hm : P.follows .mixedOrders = true) (hp : Part H0 H) (h : Any P n l.toArray w0 Cs H0 l.toArray.size (Array.replicate l.toArray.size false) H e (fun e' H' => Q .normal e' H')) :
    JC P n w0 Cs (.region id l.toArray true) H e Q := by
  intro a w hf hw
  refine wp_mono (wp_region_any hm ((h hp).wp _ _ _ _ a _ hf hw.drawn)) ?_
  rintro ex a' w' ⟨rfl, e', H', h1, h2, h3⟩
  exact ⟨e', H', h1, h2, h3⟩
theorem part_erase (i : Nat) : Part (H.eraseIdx i) H := by
  by_cases hi : i < H.length
  · exact ⟨[H[i]], List.perm_append_comm.trans (At.perm (c := H[i]) ⟨by simp [hi]⟩)⟩
  · rw [List.eraseIdx_of_length_le (by omega)]
    exact Part.refl _
theorem JC.any {id : Nat} {l : List Oper} {Q : Exit → Env → List Chunk → Prop} (hm : P.follows .mixedOrders = true) (h : Any P n l.toArray w0 Cs H l.toArray.size (Array.replicate l.toArray.size false) H e (fun e' H' => Q .normal e' H')) :
    JC P n w0 Cs (.region id l.toArray true) H e Q := JC.anyP hm (Part.refl _) h
theorem JC.as {id : Nat} {l : List Oper} {y : Code} {Q : Exit → Env → List Chunk → Prop} (hm : P.follows .mixedOrders = true) (h : Any P n l.toArray w0 Cs H l.toArray.size (Array.replicate l.toArray.size false) H e (fun e' H' => JC P n w0 Cs y H' e' Q)) :
    JC P n w0 Cs (.seq (.region id l.toArray true) y) H e Q := JC.seq (JC.any hm h)
theorem JC.asE {id : Nat} {l : List Oper} {y : Code} {Q : Exit → Env → List Chunk → Prop} (i : Nat) (hm : P.follows .mixedOrders = true) (h : Any P n l.toArray w0 Cs (H.eraseIdx i) l.toArray.size (Array.replicate l.toArray.size false) H e (fun e' H' => JC P n w0 Cs y H' e' Q)) :
    JC P n w0 Cs (.seq (.region id l.toArray true) y) H e Q := JC.seq (JC.anyP hm (part_erase i) h)
theorem JC.anyE {id : Nat} {l : List Oper} {Q : Exit → Env → List Chunk → Prop} (i : Nat) (hm : P.follows .mixedOrders = true) (h : Any P n l.toArray w0 Cs (H.eraseIdx i) l.toArray.size (Array.replicate l.toArray.size false) H e (fun e' H' => Q .normal e' H')) :
    JC P n w0 Cs (.region id l.toArray true) H e Q := JC.anyP hm (part_erase i) h
/-- The pieces that the region writes, left out by what is kept. -/
theorem JC.asP {id : Nat} {l : List Oper} {y : Code} {Q : Exit → Env → List Chunk → Prop} (H0 : List Chunk) (hm : P.follows .mixedOrders = true) (hp : Part H0 H) (h : Any P n l.toArray w0 Cs H0 l.toArray.size (Array.replicate l.toArray.size false) H e (fun e' H' => JC P n w0 Cs y H' e' Q)) :
    JC P n w0 Cs (.seq (.region id l.toArray true) y) H e Q := JC.seq (JC.anyP hm hp h)
theorem Any.split {d : Nat} {b : Bool} (hd : Look e (.tmp d) (.bool b) := by repeat (first | exact Look.here | apply Look.there (hne := rfl) | exact Look.const | apply Look.mix rfl | exact Look.arg0 | apply Look.args | exact Look.func)) (k : ∀ c : Bool, b = c → Any P n ops w0 Cs H0 fuel listed H (upd e d (.bool c)) K) : Any P n ops w0 Cs H0 fuel listed H e K := by
  have h := k b rfl
  have he : upd e d (.bool b) = e := by
    funext j
    by_cases hj : j = d
    · subst hj; rw [upd_same]; exact hd.eq.symm
    · rw [upd_ne _ _ hj]
  rwa [he] at h
theorem RAt.up {α : Type} [Inhabited α] {enc : α → List Value} {sz : Nat} {v : Value} {xs : List α} (h : RAt w0 Cs H enc sz v xs) {w : World} (hw : Upd w0 w Cs H) : RSl enc sz w [] v xs := by
  obtain ⟨C, hC⟩ := h w hw
  exact hC.part (Part.nil _)
theorem RSl.empty {α : Type} [Inhabited α] (enc : α → List Value) (sz : Nat) (w : World) (C : List Chunk) : RSl enc sz w C (.slice none 0 0) [] :=
  ⟨⟨none, 0, rfl, Nat.le_refl _, fun _ => rfl⟩, by simp, by simp, fun i hi => by simp at hi⟩
end
end Go.Rx
