/- The rule layer, second part: quiet regions, calls, control flow, entering and leaving a function. -/
import Derived.Test.YtcggppjpnepoiaaDoorRxBase
namespace Go.Rx
open Go Go.RowKit
set_option linter.unusedVariables false
set_option linter.unusedSimpArgs false
section
variable {P : Program} {n : Nat} {ops : Array Oper} {w0 : World} {Cs H : List Chunk} {e : Env} {K : Env → Prop} {rest : List Oper}
  {t : Nat} {op : Op} {ty : TypeId} {pos : String} {af : Array Edge} {v : Value}
theorem Qui.nil (h : K e) : Qui P n ops w0 Cs H [] e K := fun a hf => ⟨e, hf, h⟩
theorem Qui.p (ht : Nat.blt t n = true) (h : Ev P w0 Cs H e op ty v) (k : Qui P n ops w0 Cs H rest (upd e t v) K) :
    Qui P n ops w0 Cs H (⟨some t, op, ty, pos, af, none⟩ :: rest) e K := by
  intro a hf
  unfold wpQuiet
  rw [if_pos (wanted_none rfl _)]
  refine ⟨v, fun w hw => ?_, k _ (hf.put ht v)⟩
  unfold Oper.quietAt
  rw [hf.eval, h w hw]
  exact ⟨rfl, rfl⟩
theorem Qui.gy {g : Nat × Bool} {d : Nat} (hd : (ops[g.1]?).bind (·.dst) = some d) (hn : Nat.blt d n = true) (hg : e d = .bool g.2)
    (k : Qui P n ops w0 Cs H (⟨some t, op, ty, pos, af, none⟩ :: rest) e K) :
    Qui P n ops w0 Cs H (⟨some t, op, ty, pos, af, some g⟩ :: rest) e K := by
  intro a hf
  have h := k a hf
  have hy := hf.yielded hd hg hn
  unfold wpQuiet at h ⊢
  rw [if_pos (wanted_none rfl _)] at h
  rw [if_pos (by simp [Region.wanted, hy])]
  exact h
theorem Qui.gn {g : Nat × Bool} {d : Nat} (hd : (ops[g.1]?).bind (·.dst) = some d) (hn : Nat.blt d n = true) (hg : e d = .bool (!g.2)) (ht : Nat.blt t n = true)
    (k : Qui P n ops w0 Cs H rest (upd e t undef) K) :
    Qui P n ops w0 Cs H (⟨some t, op, ty, pos, af, some g⟩ :: rest) e K := by
  intro a hf
  have hy := hf.yielded hd hg hn
  unfold wpQuiet
  rw [if_neg (by simp [Region.wanted, hy])]
  exact k _ (hf.put ht undef)
theorem yielded_undef {a : Act} {g : Nat × Bool} {d : Nat} (hf : Fits n e a) (hd : (ops[g.1]?).bind (·.dst) = some d) (hg : e d = undef) : Go.yielded ops a.tmps g.1 = none := by
  unfold Go.yielded
  rw [hd]
  have h2 := hf.at_ d
  rw [hg] at h2
  simp only [Option.bind_some]
  cases h3 : a.tmps[d]? with
  | none => rfl
  | some u =>
    simp [h3] at h2
    subst h2
    rfl
theorem Qui.gu {g : Nat × Bool} {d : Nat} (hd : (ops[g.1]?).bind (·.dst) = some d) (hg : e d = undef) (ht : Nat.blt t n = true)
    (k : Qui P n ops w0 Cs H rest (upd e t undef) K) :
    Qui P n ops w0 Cs H (⟨some t, op, ty, pos, af, some g⟩ :: rest) e K := by
  intro a hf
  have hy := yielded_undef hf hd hg
  unfold wpQuiet
  rw [if_neg (by simp [Region.wanted, hy])]
  exact k _ (hf.put ht undef)
end

/-! ### calls -/
section
variable {P : Program} {n : Nat} {ops : Array Oper} {w0 : World} {Cs H Gs F : List Chunk} {e : Env} {K : Env → List Chunk → Prop} {rest : List Oper}
  {t : Nat} {ty : TypeId} {pos : String} {af : Array Edge} {f : FuncId} {as : List Operand} {ats : Array TypeId} {Post : Value → List Chunk → Prop}
theorem run_enter (h : Enters P f) (ρ : Operand → Value) (x : Operand) (first cap : Array Value) (hx : ρ x = .func (.func f) first cap) (d : Option Tmp) (g : Option (Nat × Bool)) (w : World) :
    (execOp ρ ⟨d, .call ⟨.value x, as.toArray, ats⟩, ty, pos, af, g⟩).run P w = .ok (.enter f (first ++ (as.map ρ).toArray ++ cap)) w := by
  obtain ⟨fn, hf, hn, hb⟩ := h
  have hn' : ¬ fn.name = "runtime.NumGoroutine" := by simpa using hn
  have hb' : ¬ fn.body = none := by cases h : fn.body <;> simp_all
  simp [execOp, resolve, Deferred.ofValue, invoke, callFunc, hx, hf, hn', hb']
theorem Spec.mono {args : Array Value} {w : World} {Post' : Value → List Chunk → Prop} (h : Spec P f args w Gs Post) (hp : ∀ v H', Post v H' → Post' v H') : Spec P f args w Gs Post' :=
  ⟨h.1, h.2.mono fun e w' ⟨v, H', a, b, c⟩ => ⟨v, H', a, b, hp _ _ c⟩⟩
/-- A call of a named function under its contract. -/
theorem Seq.call (ht : Nat.blt t n = true) (hs : ∀ w, Upd w0 w Cs H → Spec P f (as.map (ev e)).toArray w Gs Post) (hp : (Gs ++ F).Perm H)
    (k : ∀ v H', Post v H' → Seq P n ops w0 Cs rest (H' ++ F) (upd e t v) K) :
    Seq P n ops w0 Cs (⟨some t, .call ⟨.value (.func f), as.toArray, ats⟩, ty, pos, af, none⟩ :: rest) H e K := by
  intro a w hf hw
  obtain ⟨hent, hc⟩ := hs w hw
  simp only [wpList]
  rw [if_pos (wanted_none rfl _)]
  refine .inl ?_
  simp only [Oper.wp, hf.eval, run_enter hent (ev e) (.func f) #[] #[] rfl, Oper.upon]
  simp only [Array.append_empty, Array.empty_append]
  refine hc.mono ?_
  rintro en w' ⟨v, H', rfl, hu, hpost⟩
  exact k v H' hpost _ w' (hf.put ht v) (Upd.step (hw.perm hp.symm) hu)
theorem Seq.call0 (hs : ∀ w, Upd w0 w Cs H → Spec P f (as.map (ev e)).toArray w Gs Post) (hp : (Gs ++ F).Perm H)
    (k : ∀ v H', Post v H' → Seq P n ops w0 Cs rest (H' ++ F) e K) :
    Seq P n ops w0 Cs (⟨none, .call ⟨.value (.func f), as.toArray, ats⟩, ty, pos, af, none⟩ :: rest) H e K := by
  intro a w hf hw
  obtain ⟨hent, hc⟩ := hs w hw
  simp only [wpList]
  rw [if_pos (wanted_none rfl _)]
  refine .inl ?_
  simp only [Oper.wp, hf.eval, run_enter hent (ev e) (.func f) #[] #[] rfl, Oper.upon]
  simp only [Array.append_empty, Array.empty_append]
  refine hc.mono ?_
  rintro en w' ⟨v, H', rfl, hu, hpost⟩
  exact k v H' hpost _ w' hf (Upd.step (hw.perm hp.symm) hu)
/-- A call of a function value. -/
theorem Seq.callv {x : Nat} {first cap : List Value} (ht : Nat.blt t n = true) (hx : e x = .func (.func f) first.toArray cap.toArray)
    (hs : ∀ w, Upd w0 w Cs H → Spec P f (first ++ as.map (ev e) ++ cap).toArray w Gs Post) (hp : (Gs ++ F).Perm H)
    (k : ∀ v H', Post v H' → Seq P n ops w0 Cs rest (H' ++ F) (upd e t v) K) :
    Seq P n ops w0 Cs (⟨some t, .call ⟨.value (.tmp x), as.toArray, ats⟩, ty, pos, af, none⟩ :: rest) H e K := by
  intro a w hf hw
  obtain ⟨hent, hc⟩ := hs w hw
  simp only [wpList]
  rw [if_pos (wanted_none rfl _)]
  refine .inl ?_
  simp only [Oper.wp, hf.eval, run_enter hent (ev e) (.tmp x) first.toArray cap.toArray hx, Oper.upon]
  simp only [List.append_toArray]
  refine hc.mono ?_
  rintro en w' ⟨v, H', rfl, hu, hpost⟩
  exact k v H' hpost _ w' (hf.put ht v) (Upd.step (hw.perm hp.symm) hu)
/-- A call that hands back one known value, and of whose memory nothing is asked. -/
theorem Seq.callP {v : Value} (ht : Nat.blt t n = true) (hs : ∀ w, Upd w0 w Cs H → Spec P f (as.map (ev e)).toArray w [] (fun u _ => u = v))
    (k : Seq P n ops w0 Cs rest H (upd e t v) K) :
    Seq P n ops w0 Cs (⟨some t, .call ⟨.value (.func f), as.toArray, ats⟩, ty, pos, af, none⟩ :: rest) H e K := by
  refine Seq.call ht hs (F := H) (by simp) ?_
  rintro u H' rfl a w hf hw
  exact k a w hf (hw.part ⟨H', List.perm_append_comm⟩)
theorem Seq.callvP {v : Value} {x : Nat} {first cap : List Value} (ht : Nat.blt t n = true) (hx : e x = .func (.func f) first.toArray cap.toArray)
    (hs : ∀ w, Upd w0 w Cs H → Spec P f (first ++ as.map (ev e) ++ cap).toArray w [] (fun u _ => u = v))
    (k : Seq P n ops w0 Cs rest H (upd e t v) K) :
    Seq P n ops w0 Cs (⟨some t, .call ⟨.value (.tmp x), as.toArray, ats⟩, ty, pos, af, none⟩ :: rest) H e K := by
  refine Seq.callv ht hx hs (F := H) (by simp) ?_
  rintro u H' rfl a w hf hw
  exact k a w hf (hw.part ⟨H', List.perm_append_comm⟩)
/-- A call that hands back one known value, in a quiet region. -/
theorem Qui.call {v : Value} {K : Env → Prop} (ht : Nat.blt t n = true) (hs : ∀ w, Upd w0 w Cs H → Spec P f (as.map (ev e)).toArray w [] (fun u _ => u = v))
    (k : Qui P n ops w0 Cs H rest (upd e t v) K) :
    Qui P n ops w0 Cs H (⟨some t, .call ⟨.value (.func f), as.toArray, ats⟩, ty, pos, af, none⟩ :: rest) e K := by
  intro a hf
  unfold wpQuiet
  rw [if_pos (wanted_none rfl _)]
  refine ⟨v, fun w hw => ?_, k _ (hf.put ht v)⟩
  obtain ⟨hent, hc⟩ := hs w hw
  unfold Oper.quietAt
  rw [hf.eval, run_enter hent (ev e) (.func f) #[] #[] rfl]
  refine ⟨rfl, ?_⟩
  simp only [Array.append_empty, Array.empty_append]
  refine hc.mono ?_
  rintro en w' ⟨u, H', rfl, hu, rfl⟩
  refine ⟨rfl, ?_⟩
  have h2 : Upd w w' [] [] := hu.part (Part.nil _)
  exact Upd.step (Gs := []) (H' := []) hw h2
theorem Qui.callv {v : Value} {K : Env → Prop} {x : Nat} {first cap : List Value} (ht : Nat.blt t n = true) (hx : e x = .func (.func f) first.toArray cap.toArray)
    (hs : ∀ w, Upd w0 w Cs H → Spec P f (first ++ as.map (ev e) ++ cap).toArray w [] (fun u _ => u = v))
    (k : Qui P n ops w0 Cs H rest (upd e t v) K) :
    Qui P n ops w0 Cs H (⟨some t, .call ⟨.value (.tmp x), as.toArray, ats⟩, ty, pos, af, none⟩ :: rest) e K := by
  intro a hf
  unfold wpQuiet
  rw [if_pos (wanted_none rfl _)]
  refine ⟨v, fun w hw => ?_, k _ (hf.put ht v)⟩
  obtain ⟨hent, hc⟩ := hs w hw
  unfold Oper.quietAt
  rw [hf.eval, run_enter hent (ev e) (.tmp x) first.toArray cap.toArray hx]
  refine ⟨rfl, ?_⟩
  simp only [List.append_toArray]
  refine hc.mono ?_
  rintro en w' ⟨u, H', rfl, hu, rfl⟩
  refine ⟨rfl, ?_⟩
  have h2 : Upd w w' [] [] := hu.part (Part.nil _)
  exact Upd.step (Gs := []) (H' := []) hw h2
end

/-! ### control -/
section
variable {P : Program} {n : Nat} {w0 : World} {Cs H : List Chunk} {e : Env} {Q : Exit → Env → List Chunk → Prop}
theorem JC.mono {c : Code} {Q' : Exit → Env → List Chunk → Prop} (h : JC P n w0 Cs c H e Q) (hq : ∀ x e H, Q x e H → Q' x e H) : JC P n w0 Cs c H e Q' :=
  fun a w hf hw => wp_mono (h a w hf hw) fun x a' w' ⟨e', H', h1, h2, h3⟩ => ⟨e', H', h1, h2, hq _ _ _ h3⟩
theorem JC.part {c : Code} {H' : List Chunk} (hp : Part H' H) (h : JC P n w0 Cs c H' e Q) : JC P n w0 Cs c H e Q :=
  fun a w hf hw => h a w hf (hw.part hp)
theorem JC.skip (h : Q .normal e H) : JC P n w0 Cs .skip H e Q := fun a w hf hw => wp_skip ⟨e, H, hf, hw, h⟩
theorem JC.ret (h : Q .ret e H) : JC P n w0 Cs .ret H e Q := fun a w hf hw => wp_ret ⟨e, H, hf, hw, h⟩
theorem JC.exit {id : Nat} (h : Q (.exit id) e H) : JC P n w0 Cs (.exit id) H e Q := fun a w hf hw => wp_exit ⟨e, H, hf, hw, h⟩
theorem JC.label {l : Nat} (h : Q .normal e H) : JC P n w0 Cs (.label l) H e Q := fun a w hf hw => wp_label ⟨e, H, hf, hw, h⟩
abbrev thenQ (next : Env → List Chunk → Prop) (Q : Exit → Env → List Chunk → Prop) : Exit → Env → List Chunk → Prop
  | .normal, e, H => next e H
  | x, e, H => Q x e H
theorem JC.seq {x y : Code} (h : JC P n w0 Cs x H e (thenQ (fun e' H' => JC P n w0 Cs y H' e' Q) Q)) : JC P n w0 Cs (.seq x y) H e Q := by
  intro a w hf hw
  refine wp_seq (wp_mono (h a w hf hw) ?_)
  rintro ex a' w' ⟨e', H', h1, h2, h3⟩
  cases ex with
  | normal => exact h3 a' w' h1 h2
  | _ => exact ⟨e', H', h1, h2, h3⟩
/-- A cut between two pieces of code. -/
theorem JC.cut {x y : Code} (M : Env → List Chunk → Prop) (h : JC P n w0 Cs x H e (thenQ M Q)) (k : ∀ e' H', M e' H' → JC P n w0 Cs y H' e' Q) : JC P n w0 Cs (.seq x y) H e Q := by
  refine JC.seq (h.mono ?_)
  intro ex e' H' hq
  cases ex with
  | normal => exact k _ _ hq
  | _ => exact hq
theorem JC.cond {c : Operand} {x y : Code} {b : Bool} (hc : ev e c = .bool b) (ht : b = true → JC P n w0 Cs x H e Q) (hf : b = false → JC P n w0 Cs y H e Q) : JC P n w0 Cs (.cond c x y) H e Q := by
  intro a w hfit hw
  have hc' : a.eval c = .bool b := by rw [hfit.eval]; exact hc
  exact wp_cond_split hc' (fun h => ht h a w hfit hw) (fun h => hf h a w hfit hw)
theorem JC.condP {c : Operand} {x y : Code} {p : Prop} [Decidable p] (hc : ev e c = .bool (decide p)) (ht : p → JC P n w0 Cs x H e Q) (hf : ¬ p → JC P n w0 Cs y H e Q) : JC P n w0 Cs (.cond c x y) H e Q :=
  JC.cond hc (fun h => ht (of_decide_eq_true h)) (fun h => hf (of_decide_eq_false h))
theorem JC.condT {c : Operand} {x y : Code} (hc : ev e c = .bool true) (h : JC P n w0 Cs x H e Q) : JC P n w0 Cs (.cond c x y) H e Q :=
  JC.cond hc (fun _ => h) (fun h => by cases h)
theorem JC.condF {c : Operand} {x y : Code} (hc : ev e c = .bool false) (h : JC P n w0 Cs y H e Q) : JC P n w0 Cs (.cond c x y) H e Q :=
  JC.cond hc (fun h => by cases h) (fun _ => h)
abbrev blockQ (id : Nat) (Q : Exit → Env → List Chunk → Prop) : Exit → Env → List Chunk → Prop
  | .exit id', e, H => if id' = id then Q .normal e H else Q (.exit id') e H
  | x, e, H => Q x e H
theorem JC.block {id : Nat} {c : Code} (h : JC P n w0 Cs c H e (blockQ id Q)) : JC P n w0 Cs (.block id c) H e Q := by
  intro a w hf hw
  refine wp_block (wp_mono (h a w hf hw) ?_)
  rintro ex a' w' ⟨e', H', h1, h2, h3⟩
  cases ex with
  | exit id' =>
    simp only [blockQ] at h3
    simp only [Exit.inBlock]
    split at h3
    · rename_i he; rw [if_pos he]; exact ⟨e', H', h1, h2, h3⟩
    · rename_i he; rw [if_neg he]; exact ⟨e', H', h1, h2, h3⟩
  | _ => exact ⟨e', H', h1, h2, h3⟩
/-- A loop: I x is what holds at a round's head, for some x that every round lowers. -/
theorem JC.loop {α : Type} {c : Code} (I : α → Env → List Chunk → Prop) (μ : α → Nat) (x0 : α) (h0 : I x0 e H)
    (round : ∀ x e H, I x e H → JC P n w0 Cs c H e (thenQ (fun e' H' => ∃ x' H'', Part H'' H' ∧ I x' e' H'' ∧ μ x' < μ x) Q)) : JC P n w0 Cs (.loop c) H e Q := by
  intro a w hf hw b k cs
  have key : ∀ (m : Nat) (x : α) (e : Env) (H : List Chunk) (a : Act) (w : World), μ x = m → Fits n e a → Upd w0 w Cs H → I x e H →
      ∃ ex a' w', (∃ e' H', Fits n e' a' ∧ Upd w0 w' Cs H' ∧ Q ex e' H') ∧ Arrives P (lone (b.at a (.code c :: .inLoop c :: k)) cs w) b k cs ex a' w' := by
    intro m
    induction m using Nat.strongRecOn with
    | _ m ih =>
      intro x e H a w hm hf hw hI
      obtain ⟨ex, a₁, w₁, ⟨e1, H1, hf1, hw1, hq⟩, harr⟩ := round x e H hI a w hf hw b (.inLoop c :: k) cs
      cases ex with
      | normal =>
        obtain ⟨x', H'', hp, hI', hlt⟩ := hq
        obtain ⟨e₂, a₂, w₂, hq₂, harr₂⟩ := ih (μ x') (hm ▸ hlt) x' e1 H'' a₁ w₁ rfl hf1 (hw1.part hp) hI'
        exact ⟨e₂, a₂, w₂, hq₂, .of_steps (Steps.trans harr (.one step_inLoop)) harr₂⟩
      | exit id => exact ⟨_, a₁, w₁, ⟨e1, H1, hf1, hw1, hq⟩, .pass (x := .inLoop c) rfl (fun _ _ => .inl (by simp)) harr⟩
      | goto l => exact ⟨_, a₁, w₁, ⟨e1, H1, hf1, hw1, hq⟩, .pass (x := .inLoop c) rfl (fun _ _ => .inl (by simp)) harr⟩
      | ret => exact ⟨_, a₁, w₁, ⟨e1, H1, hf1, hw1, hq⟩, .pass (x := .inLoop c) rfl (fun _ _ => .inl (by simp)) harr⟩
      | panic ch => exact ⟨_, a₁, w₁, ⟨e1, H1, hf1, hw1, hq⟩, .pass (x := .inLoop c) rfl (fun _ _ => .inl (by simp)) harr⟩
      | outgrown => exact ⟨_, a₁, w₁, ⟨e1, H1, hf1, hw1, hq⟩, .pass (x := .inLoop c) rfl (fun _ _ => .inl (by simp)) harr⟩
  obtain ⟨ex, a', w', hq, harr⟩ := key _ x0 e H a w rfl hf hw h0
  exact ⟨ex, a', w', hq, .of_steps (.one step_loop) harr⟩
/-- A region in the text's order. -/
theorem JC.reg {id : Nat} {l : List Oper} (h : Seq P n l.toArray w0 Cs l H e (fun e' H' => Q .normal e' H')) : JC P n w0 Cs (.region id l.toArray false) H e Q := by
  intro a w hf hw
  refine wp_mono (wp_region_lit (h a w hf hw)) ?_
  rintro ex a' w' ⟨rfl, e', H', h1, h2, h3⟩
  exact ⟨e', H', h1, h2, h3⟩
theorem Oper.quiet_mono' {P : Program} {o : Oper} {a : Act} {C : World → Prop} {K K' : Act → Prop} (h : ∀ a, K a → K' a) (hh : o.quiet P a C K) : o.quiet P a C K' :=
  let ⟨v, h1, h2⟩ := hh
  ⟨v, h1, h _ h2⟩
theorem wpQuiet_mono {P : Program} {ops : Array Oper} {C : World → Prop} {Q Q' : Act → Prop} (h : ∀ a, Q a → Q' a) : ∀ (l : List Oper) (a : Act), wpQuiet P ops C Q l a → wpQuiet P ops C Q' l a
  | [], a, hh => h a hh
  | o :: rest, a, hh => by
    unfold wpQuiet at hh ⊢
    split
    · rename_i hw
      rw [if_pos hw] at hh
      exact Oper.quiet_mono' (fun a => wpQuiet_mono h rest a) hh
    · rename_i hw
      rw [if_neg hw] at hh
      exact wpQuiet_mono h rest _ hh
/-- A region that draws its order, all of whose operations only compute or read. -/
theorem JC.quiet {id : Nat} {l : List Oper} (hm : P.follows .mixedOrders = true) (hB : Region.lexB .any l.toArray = true) (h : Qui P n l.toArray w0 Cs H l e (fun e' => Q .normal e' H)) :
    JC P n w0 Cs (.region id l.toArray true) H e Q := by
  intro a w hf hw
  refine wp_region_quiet (C := fun w => Upd w0 w Cs H) hm hB hw.drawn ?_
  refine wpQuiet_mono ?_ _ _ (h a hf)
  rintro a' ⟨e', h1, h2⟩ w' hw'
  exact ⟨e', H, h1, hw', h2⟩
end

/-! ### a whole function -/
def env0 (l : List Value) : Env := fun j => l.getD j undef
section
variable {P : Program} {w0 : World} {Cs H : List Chunk} {e : Env}
/-- What stands in a result variable. -/
inductive RV (P : Program) (w0 : World) (Cs H : List Chunk) (e : Env) : ResultVar → Value → Prop
  | tmp (t : Tmp) : RV P w0 Cs H e (.tmp t) (e t)
  | cell (a : Tmp) (ty : TypeId) (ad : Addr) (v : Value) (ha : e a = .pointer (some ad)) (hv : ∀ w, Upd w0 w Cs H → (loadVar ty ad).run P w = .ok v w) : RV P w0 Cs H e (.cell a ty) v
def pack : List Value → Value
  | [v] => v
  | vs => .tuple vs.toArray
inductive RVs (P : Program) (w0 : World) (Cs H : List Chunk) (e : Env) : List ResultVar → List Value → Prop
  | nil : RVs P w0 Cs H e [] []
  | cons {r : ResultVar} {v : Value} {rs : List ResultVar} {vs : List Value} (h : RV P w0 Cs H e r v) (hs : RVs P w0 Cs H e rs vs) : RVs P w0 Cs H e (r :: rs) (v :: vs)
theorem run_mapM_list {f : ResultVar → Sem Value} {w : World} : ∀ (l : List ResultVar) (vs : List Value), (∀ i (h : i < l.length), ∃ v, vs[i]? = some v ∧ (f l[i]).run P w = .ok v w) → l.length = vs.length → (l.mapM f).run P w = .ok vs w
  | [], vs, _, hl => by
    have : vs = [] := List.eq_nil_of_length_eq_zero (by simpa using hl.symm)
    subst this
    simp
  | r :: l, vs, h, hl => by
    cases vs with
    | nil => simp at hl
    | cons v vs =>
      obtain ⟨u, hu, hr⟩ := h 0 (by simp)
      simp at hu
      subst hu
      have ih := run_mapM_list l vs (fun i hi => by
        obtain ⟨u, hu, hr⟩ := h (i + 1) (by simpa using hi)
        exact ⟨u, by simpa using hu, by simpa using hr⟩) (by simpa using hl)
      simp only [List.getElem_cons_zero] at hr
      simp [List.mapM_cons, hr, ih]
theorem RVs.get {rs : List ResultVar} {vs : List Value} (h : RVs P w0 Cs H e rs vs) : rs.length = vs.length ∧ ∀ i (hi : i < rs.length), ∃ v, vs[i]? = some v ∧ RV P w0 Cs H e rs[i] v := by
  induction h with
  | nil => exact ⟨rfl, fun i hi => by simp at hi⟩
  | cons h _ ih =>
    refine ⟨by simp [ih.1], fun i hi => ?_⟩
    cases i with
    | zero => exact ⟨_, rfl, h⟩
    | succ i =>
      obtain ⟨v, h1, h2⟩ := ih.2 i (by simpa using hi)
      exact ⟨v, by simpa using h1, by simpa using h2⟩
theorem run_results {fn : Func} {rs : List ResultVar} {vs : List Value} (hr : fn.results = rs.toArray) (h : RVs P w0 Cs H e rs vs) {n : Nat} {a : Act} {w : World} (hf : Fits n e a) (hw : Upd w0 w Cs H) :
    (results fn a.tmps).run P w = .ok (pack vs) w := by
  have hg := h.get
  have key := run_mapM_list (P := P) (w := w) (f := fun | .tmp t => pure (a.tmps.getD t undef) | .cell b t => do loadVar t (← asAddr (a.tmps.getD b undef))) rs vs (fun i hi => by
    obtain ⟨v, h1, h2⟩ := hg.2 i hi
    refine ⟨v, h1, ?_⟩
    cases hri : rs[i] with
    | tmp t =>
      rw [hri] at h2
      cases h2
      have := hf.at_ t
      simp only [Sem.run_pure, this]
    | cell b ty =>
      rw [hri] at h2
      cases h2 with
      | cell _ _ ad _ ha hv =>
        have := hf.at_ b
        rw [ha] at this
        simp only [this, asAddr, pure_bind]
        exact hv w hw) hg.1
  have hmap : (results fn a.tmps) = ((rs.mapM (fun | ResultVar.tmp t => (pure (a.tmps.getD t undef) : Sem Value) | .cell b t => do loadVar t (← asAddr (a.tmps.getD b undef)))) >>= fun l => pure (pack l)) := by
    unfold results
    rw [hr, List.mapM_toArray]
    simp only [map_eq_pure_bind, bind_assoc, pure_bind]
    congr 1
    funext l
    cases l with
    | nil => rfl
    | cons v vs => cases vs <;> simp [pack]
  rw [hmap, Sem.run_bind, key, Result.andThen_ok, Sem.run_pure]
def retQ (P : Program) (w0 : World) (Cs : List Chunk) (rs : List ResultVar) (Post : Value → List Chunk → Prop) : Exit → Env → List Chunk → Prop
  | .normal, e, H | .ret, e, H => ∃ vs H', RVs P w0 Cs H e rs vs ∧ Part H' H ∧ Post (pack vs) H'
  | _, _, _ => False
theorem Spec.enter {f : FuncId} {fn : Func} {c : Code} {n : Nat} {rs : List ResultVar} {Gs : List Chunk} {Post : Value → List Chunk → Prop} {w : World} (args : List Value)
    (hf : P.funcs[f]? = some fn) (hn : (fn.name == "runtime.NumGoroutine") = false) (hb : fn.body = some c) (hnt : fn.ntmps = n) (hres : fn.results = rs.toArray) (hlen : Nat.ble args.length n = true)
    (hown : Own w Gs) (h : JC P n w Gs c Gs (env0 args) (retQ P w Gs rs Post)) : Spec P f args.toArray w Gs Post := by
  refine ⟨⟨fn, hf, hn, by simp [hb]⟩, calls_of_wp hf hb ?_⟩
  have hle : args.length ≤ n := by simpa using hlen
  have hfit : Fits n (env0 args) { tmps := args.toArray ++ Array.replicate (fn.ntmps - args.toArray.size) undef, defers := [] } := by
    refine ⟨by simp [hnt]; omega, fun j => ?_, rfl⟩
    simp only [env0]
    by_cases hj : j < args.length
    · simp [Array.getElem?_append, hj]
    · simp [Array.getElem?_append, hj]
      rw [Array.getElem?_replicate]
      split <;> simp_all
  refine wp_mono (h _ w hfit (Upd.refl hown)) ?_
  rintro ex a' w' ⟨e', H', h1, h2, h3⟩
  cases ex with
  | normal =>
    obtain ⟨vs, H'', hrv, hp, hpost⟩ := h3
    exact ⟨h1.defers, _, run_results hres hrv h1 h2, _, H'', rfl, h2.part hp, hpost⟩
  | ret =>
    obtain ⟨vs, H'', hrv, hp, hpost⟩ := h3
    exact ⟨h1.defers, _, run_results hres hrv h1 h2, _, H'', rfl, h2.part hp, hpost⟩
  | _ => exact h3.elim
end
end Go.Rx
