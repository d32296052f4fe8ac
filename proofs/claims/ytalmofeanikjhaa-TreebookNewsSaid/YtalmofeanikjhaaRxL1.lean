/- The rule layer of these proofs. -/
import Derived.WalkKit
import Derived.KernelRfl
import Derived.Deep.Quiet
import Derived.Deep.AppendSrc
import Derived.Laws.StructEq
import Derived.OrdersHeld
import Derived.ProofKit
import Derived.OpenShut
import Derived.SizedLaws
import Derived.MapKept
import Derived.Carry
import Derived.Laws.IdiomStrings
import Derived.Lib.AppendZeros
import Derived.Laws.MakeOwn
import Derived.Laws.Pointers
import Derived.Lib.BufferMore
import Derived.Lib.Overlaps
import Derived.Laws.Externs
import Derived.Lib.Mul64
import Derived.HandedShaped
set_option linter.unusedVariables false
set_option linter.unusedSimpArgs false
/- The rule layer of these proofs: a frame of temporaries as a function, a symbolic memory as a list of owned pieces, and the rules of single operations over them; nothing of one program stands here. -/
namespace Go.Rx
open Go Go.RowKit
set_option linter.unusedVariables false
set_option linter.unusedSimpArgs false

/-! ### pieces of memory -/
structure Asn where
  fp : Nat → Prop
  ok : World → Prop
  stable : ∀ {w w' : World}, (∀ i, fp i → w'.heap[i]? = w.heap[i]?) → ok w → ok w'
  live : ∀ {w : World} {i : Nat}, ok w → fp i → i < w.heap.size
def OwnR (w : World) (e : TypeId) (sz : Nat) (v : Value) (n : Nat) (xs : List Value) : Prop :=
  xs.length = n * sz ∧ ((v = .slice none 0 0 ∧ n = 0) ∨
    ∃ g off cap cur fr, v = .slice (some ⟨g, off, none⟩) n cap ∧ w.heap[g]? = some (.cells cur e fr) ∧ n ≤ cap ∧ cap ≤ maxLen ∧ off + cap * sz ≤ cur.size ∧
      (∀ j, off ≤ j → j < off + cap * sz → ¬ (fr.1 ≤ j ∧ j < fr.2)) ∧ (cur.toList.drop off).take (n * sz) = xs)
theorem OwnR.lt {w : World} {e : TypeId} {sz : Nat} {v : Value} {n : Nat} {xs : List Value} (h : OwnR w e sz v n xs) {i : Nat} (hi : v.ownBlock = some i) : i < w.heap.size := by
  rcases h.2 with ⟨rfl, _⟩ | ⟨g, off, cap, cur, fr, rfl, hg, _⟩
  · cases hi
  · cases hi
    exact (Array.getElem?_eq_some_iff.1 hg).1
theorem OwnR.nil (w : World) (e : TypeId) (sz : Nat) : OwnR w e sz (.slice none 0 0) 0 [] := ⟨by simp, .inl ⟨rfl, rfl⟩⟩
inductive Chunk where
  | blk (b : Nat) (o : Obj)
  | own (e : TypeId) (size : Nat) (v : Value) (n : Nat) (xs : List Value)
  | any (A : Asn)
def Chunk.fp : Chunk → Nat → Prop
  | .blk b _, i => i = b
  | .own _ _ v _ _, i => v.ownBlock = some i
  | .any A, i => A.fp i
def Chunk.ok : Chunk → World → Prop
  | .blk b o, w => w.heap[b]? = some o
  | .own e size v n xs, w => OwnR w e size v n xs
  | .any A, w => A.ok w
theorem Chunk.stable (c : Chunk) {w w' : World} (h : ∀ i, c.fp i → w'.heap[i]? = w.heap[i]?) (hw : c.ok w) : c.ok w' := by
  cases c with
  | blk b o => show w'.heap[b]? = some o; rw [h b rfl]; exact hw
  | own e size v n xs =>
    refine ⟨hw.1, ?_⟩
    rcases hw.2 with hn | ⟨g, off, cap, cur, fr, rfl, hg, rest⟩
    · exact .inl hn
    · exact .inr ⟨g, off, cap, cur, fr, rfl, by rw [h g rfl]; exact hg, rest⟩
  | any A => exact A.stable h hw
theorem Chunk.live (c : Chunk) {w : World} {i : Nat} (hw : c.ok w) (hi : c.fp i) : i < w.heap.size := by
  cases c with
  | blk b o => cases hi; exact (Array.getElem?_eq_some_iff.1 hw).1
  | own e size v n xs => exact OwnR.lt hw hi
  | any A => exact A.live hw hi

def apart (a b : Chunk) : Prop := ∀ i, a.fp i → b.fp i → False

structure Own (w : World) (H : List Chunk) : Prop where
  ok : ∀ c ∈ H, c.ok w
  sep : H.Pairwise apart

structure Upd (w0 w : World) (Cs H : List Chunk) : Prop where
  os : w.os = w0.os
  tape : w.tape = w0.tape
  output : w.output = w0.output
  size : w0.heap.size ≤ w.heap.size
  keep : ∀ i, i < w0.heap.size → (∀ c ∈ Cs, ¬ c.fp i) → w.heap[i]? = w0.heap[i]?
  own : Own w H
  fresh : ∀ c ∈ H, ∀ i, c.fp i → (∃ d ∈ Cs, d.fp i) ∨ w0.heap.size ≤ i

theorem Own.nil (w : World) : Own w [] := ⟨by simp, List.Pairwise.nil⟩
theorem apart.symm {a b : Chunk} (h : apart a b) : apart b a := fun i ha hb => h i hb ha
theorem Upd.refl {w : World} {Cs : List Chunk} (h : Own w Cs) : Upd w w Cs Cs :=
  ⟨rfl, rfl, rfl, Nat.le_refl _, fun _ _ _ => rfl, h, fun c hc i hi => .inl ⟨c, hc, hi⟩⟩
theorem Upd.refl0 (w : World) : Upd w w [] [] := Upd.refl (Own.nil w)

theorem Own.sub {w : World} {H H' : List Chunk} (h : Own w H) (hs : H'.Sublist H) : Own w H' :=
  ⟨fun c hc => h.ok c (hs.subset hc), h.sep.sublist hs⟩
theorem Own.perm {w : World} {H H' : List Chunk} (h : Own w H) (hs : H.Perm H') : Own w H' :=
  ⟨fun c hc => h.ok c (hs.symm.subset hc), (hs.pairwise_iff (fun h => apart.symm h)).1 h.sep⟩

def Part (H' H : List Chunk) : Prop := ∃ G, (H' ++ G).Perm H
theorem Part.own {w : World} {H H' : List Chunk} (hs : Part H' H) (h : Own w H) : Own w H' := by
  obtain ⟨G, hG⟩ := hs
  exact (h.perm hG.symm).sub (List.sublist_append_left _ _)
theorem Part.mem {H H' : List Chunk} (hs : Part H' H) {c : Chunk} (hc : c ∈ H') : c ∈ H := by
  obtain ⟨G, hG⟩ := hs
  exact hG.subset (List.mem_append_left _ hc)
theorem Part.refl (H : List Chunk) : Part H H := ⟨[], by simp⟩
theorem Part.nil (H : List Chunk) : Part [] H := ⟨H, by simp⟩
theorem Part.here {c : Chunk} {H' H : List Chunk} (h : Part H' H) : Part (c :: H') (c :: H) := by
  obtain ⟨G, hG⟩ := h
  exact ⟨G, hG.cons c⟩
theorem Part.skip {c : Chunk} {H' H : List Chunk} (h : Part H' H) : Part H' (c :: H) := by
  obtain ⟨G, hG⟩ := h
  exact ⟨c :: G, List.perm_middle.trans (hG.cons c)⟩
theorem Upd.part {w0 w : World} {Cs H H' : List Chunk} (h : Upd w0 w Cs H) (hs : Part H' H) : Upd w0 w Cs H' :=
  ⟨h.os, h.tape, h.output, h.size, h.keep, hs.own h.own, fun c hc => h.fresh c (hs.mem hc)⟩

theorem Upd.step {w0 w w' : World} {Cs Gs F H' : List Chunk} (h : Upd w0 w Cs (Gs ++ F)) (k : Upd w w' Gs H') : Upd w0 w' Cs (H' ++ F) := by
  have hsep := List.pairwise_append.1 h.own.sep
  have keepF : ∀ c ∈ F, ∀ i, c.fp i → w'.heap[i]? = w.heap[i]? := fun c hc i hi =>
    k.keep i (c.live (h.own.ok c (List.mem_append_right _ hc)) hi) (fun d hd hdi => hsep.2.2 d hd c hc i hdi hi)
  refine ⟨k.os.trans h.os, k.tape.trans h.tape, k.output.trans h.output, Nat.le_trans h.size k.size, ?_, ⟨?_, ?_⟩, ?_⟩
  · intro i hi hn
    rw [k.keep i (Nat.lt_of_lt_of_le hi h.size), h.keep i hi hn]
    intro d hd hdi
    rcases h.fresh d (List.mem_append_left _ hd) i hdi with ⟨e, he, hei⟩ | hge
    · exact hn e he hei
    · omega
  · intro c hc
    rcases List.mem_append.1 hc with hc | hc
    · exact k.own.ok c hc
    · exact c.stable (fun i hi => keepF c hc i hi) (h.own.ok c (List.mem_append_right _ hc))
  · refine List.pairwise_append.2 ⟨k.own.sep, hsep.2.1, ?_⟩
    intro a ha b hb i hai hbi
    rcases k.fresh a ha i hai with ⟨d, hd, hdi⟩ | hge
    · exact hsep.2.2 d hd b hb i hdi hbi
    · have := b.live (h.own.ok b (List.mem_append_right _ hb)) hbi
      omega
  · intro c hc i hi
    rcases List.mem_append.1 hc with hc | hc
    · rcases k.fresh c hc i hi with ⟨d, hd, hdi⟩ | hge
      · exact h.fresh d (List.mem_append_left _ hd) i hdi
      · exact .inr (Nat.le_trans h.size hge)
    · exact h.fresh c (List.mem_append_right _ hc) i hi
theorem Upd.perm {w0 w : World} {Cs H H' : List Chunk} (h : Upd w0 w Cs H) (hp : H.Perm H') : Upd w0 w Cs H' :=
  h.part ⟨[], by simpa using hp.symm⟩
theorem Upd.below {w w' : World} (h : Upd w w' [] []) : Below w.heap.size w w' :=
  ⟨h.os, h.tape, h.output, h.size, fun i hi => h.keep i hi (by simp)⟩
theorem Upd.below' {w w' : World} {H : List Chunk} (h : Upd w w' [] H) : Below w.heap.size w w' :=
  ⟨h.os, h.tape, h.output, h.size, fun i hi => h.keep i hi (by simp)⟩
theorem Upd.drew {w0 w : World} {Cs H : List Chunk} (h : Upd w0 w Cs H) : Upd w0 w.drew Cs H := by
  have h2 : Upd w w.drew [] [] := ⟨rfl, rfl, rfl, Nat.le_refl _, fun _ _ _ => rfl, Own.nil _, by simp⟩
  exact Upd.step (Gs := []) (H' := []) h h2
theorem Upd.drawn {w0 w : World} {Cs H : List Chunk} (h : Upd w0 w Cs H) : Upd w0 { w with drawn := w.drawn + 1 } Cs H := h.drew

abbrev Chunk.box (b : Nat) (t : TypeId) (cs : List Value) : Chunk := .blk b (.cells cs.toArray t (0, 0))
structure At (H : List Chunk) (i : Nat) (c : Chunk) : Prop where
  eq : H[i]? = some c
theorem At.z {c : Chunk} {H : List Chunk} : At (c :: H) 0 c := ⟨rfl⟩
theorem At.s {c d : Chunk} {H : List Chunk} {i : Nat} (h : At H i c) : At (d :: H) (i + 1) c := ⟨h.eq⟩
theorem At.perm {H : List Chunk} {i : Nat} {c : Chunk} (h : At H i c) : (c :: H.eraseIdx i).Perm H := by
  induction H generalizing i with
  | nil => have := h.eq; simp at this
  | cons d H ih =>
    cases i with
    | zero => have := h.eq; simp at this; subst this; simp
    | succ i =>
      have := ih (i := i) ⟨h.eq⟩
      simp only [List.eraseIdx_cons_succ]
      exact (List.Perm.swap d c _).trans (this.cons d)
theorem At.set {H : List Chunk} {i : Nat} {c : Chunk} (h : At H i c) (c' : Chunk) : (c' :: H.eraseIdx i).Perm (H.set i c') := by
  induction H generalizing i with
  | nil => have := h.eq; simp at this
  | cons d H ih =>
    cases i with
    | zero => simp
    | succ i =>
      have := ih (i := i) ⟨h.eq⟩
      simp only [List.eraseIdx_cons_succ, List.set_cons_succ]
      exact (List.Perm.swap d c' _).trans (this.cons d)
theorem At.ok {H : List Chunk} {i : Nat} {c : Chunk} (h : At H i c) {w0 w : World} {Cs : List Chunk} (hw : Upd w0 w Cs H) : c.ok w :=
  hw.own.ok c (List.mem_of_getElem? h.eq)

/-! ### the frame -/
abbrev Env := Nat → Value
def upd (e : Env) (t : Nat) (v : Value) : Env := fun j => match Nat.beq j t with | true => v | false => e j
def ev (e : Env) : Operand → Value
  | .tmp t => e t
  | .const v => v
  | .global g => .pointer (some ⟨g, 0, none⟩)
  | .func f => .func (.func f) #[] #[]
structure Fits (n : Nat) (e : Env) (a : Act) : Prop where
  size : a.tmps.size = n
  at_ : ∀ j, a.tmps.getD j undef = e j
  defers : a.defers = []
theorem upd_same (e : Env) (t : Nat) (v : Value) : upd e t v t = v := by simp [upd]
theorem upd_ne (e : Env) {t j : Nat} (v : Value) (h : j ≠ t) : upd e t v j = e j := by
  unfold upd
  cases hb : Nat.beq j t with
  | false => rfl
  | true => exact absurd (Nat.eq_of_beq_eq_true hb) h
theorem Fits.eval {n : Nat} {e : Env} {a : Act} (h : Fits n e a) : a.eval = ev e := by
  funext x
  cases x <;> simp only [Act.eval, ev]
  exact h.at_ _
theorem Fits.put {n : Nat} {e : Env} {a : Act} (h : Fits n e a) {t : Nat} (ht : Nat.blt t n = true) (v : Value) : Fits n (upd e t v) (a.put (some t) v) := by
  have ht' : t < n := by simpa [Nat.blt_eq] using ht
  refine ⟨by simp [Act.put, h.size], fun j => ?_, by simp [Act.put, h.defers]⟩
  by_cases hj : j = t
  · subst hj
    rw [upd_same]
    simp [Act.put, h.size, ht']
  · rw [upd_ne e v hj, ← h.at_ j]
    simp [Act.put, Array.getElem?_setIfInBounds_ne (Ne.symm hj)]
theorem Fits.yielded {n : Nat} {e : Env} {a : Act} (h : Fits n e a) {ops : Array Oper} {j d : Nat} {b : Bool} (hd : (ops[j]?).bind (·.dst) = some d) (hv : e d = .bool b) (hn : Nat.blt d n = true) : Go.yielded ops a.tmps j = some b := by
  have ht' : d < a.tmps.size := by rw [h.size]; simpa [Nat.blt_eq] using hn
  have h1 : a.tmps[d]? = some (.bool b) := by
    have h2 := h.at_ d
    rw [hv] at h2
    simp [ht'] at h2
    simp [ht', h2]
  unfold Go.yielded
  rw [hd]
  simp [h1]
def mix (D : List Nat) (u e0 : Env) : Env := fun j => match D.elem j with | true => u j | false => e0 j
def setL (e : Env) : List (Nat × Value) → Env
  | [] => e
  | (t, v) :: r => upd (setL e r) t v

/-! ### the judgements -/
section
variable (P : Program) (n : Nat) (ops : Array Oper) (w0 : World) (Cs : List Chunk)
def Enters (P : Program) (f : FuncId) : Prop := ∃ fn, P.funcs[f]? = some fn ∧ (fn.name == "runtime.NumGoroutine") = false ∧ fn.body.isNone = false
def Spec (P : Program) (f : FuncId) (args : Array Value) (w : World) (Gs : List Chunk) (Post : Value → List Chunk → Prop) : Prop :=
  Enters P f ∧ Calls P f args w fun e w' => ∃ v H', e = .returned v ∧ Upd w w' Gs H' ∧ Post v H'
def Ev (H : List Chunk) (e : Env) (op : Op) (ty : TypeId) (v : Value) : Prop :=
  ∀ w, Upd w0 w Cs H → ∀ d pos af g, (execOp (ev e) ⟨d, op, ty, pos, af, g⟩).run P w = .ok (.value v) w
def Ef (H : List Chunk) (e : Env) (op : Op) (ty : TypeId) (R : Value → List Chunk → Prop) : Prop :=
  ∀ w, Upd w0 w Cs H → ∀ d pos af g, ∃ v w' H', ((execOp (ev e) ⟨d, op, ty, pos, af, g⟩).run P w = .ok (.value v) w' ∨ ((execOp (ev e) ⟨d, op, ty, pos, af, g⟩).run P w = .ok .skip w' ∧ v = undef)) ∧ Upd w0 w' Cs H' ∧ R v H'
def Seq (l : List Oper) (H : List Chunk) (e : Env) (K : Env → List Chunk → Prop) : Prop :=
  ∀ a w, Fits n e a → Upd w0 w Cs H → wpList P ops (fun x a' w' => x = .normal ∧ ∃ e' H', Fits n e' a' ∧ Upd w0 w' Cs H' ∧ K e' H') l a w
def Qui (H : List Chunk) (l : List Oper) (e : Env) (K : Env → Prop) : Prop :=
  ∀ a, Fits n e a → wpQuiet P ops (fun w => Upd w0 w Cs H) (fun a' => ∃ e', Fits n e' a' ∧ K e') l a
def JC (c : Code) (H : List Chunk) (e : Env) (Q : Exit → Env → List Chunk → Prop) : Prop :=
  ∀ a w, Fits n e a → Upd w0 w Cs H → c.wp P (fun x a' w' => ∃ e' H', Fits n e' a' ∧ Upd w0 w' Cs H' ∧ Q x e' H') a w
end

section
variable {P : Program} {n : Nat} {ops : Array Oper} {w0 : World} {Cs H : List Chunk} {e : Env} {K : Env → List Chunk → Prop} {rest : List Oper}
  {t : Nat} {op : Op} {ty : TypeId} {pos : String} {af : Array Edge} {v : Value}
theorem wanted_none {o : Oper} (h : o.guard = none) (f : Nat → Option Bool) : Region.wanted o f = true := by simp [Region.wanted, h]
theorem Seq.nil (h : K e H) : Seq P n ops w0 Cs [] H e K := fun a w hf hw => ⟨rfl, e, H, hf, hw, h⟩
theorem Seq.p (ht : Nat.blt t n = true) (h : Ev P w0 Cs H e op ty v) (k : Seq P n ops w0 Cs rest H (upd e t v) K) :
    Seq P n ops w0 Cs (⟨some t, op, ty, pos, af, none⟩ :: rest) H e K := by
  intro a w hf hw
  simp only [wpList]
  rw [if_pos (wanted_none rfl _)]
  refine .inl ?_
  simp only [Oper.wp, hf.eval, h w hw, Oper.upon]
  exact k _ w (hf.put ht v) hw
theorem Seq.p0 (h : Ev P w0 Cs H e op ty v) (k : Seq P n ops w0 Cs rest H e K) :
    Seq P n ops w0 Cs (⟨none, op, ty, pos, af, none⟩ :: rest) H e K := by
  intro a w hf hw
  simp only [wpList]
  rw [if_pos (wanted_none rfl _)]
  refine .inl ?_
  simp only [Oper.wp, hf.eval, h w hw, Oper.upon]
  exact k _ w hf hw
theorem Seq.f {R : Value → List Chunk → Prop} (ht : Nat.blt t n = true) (h : Ef P w0 Cs H e op ty R) (k : ∀ v H', R v H' → Seq P n ops w0 Cs rest H' (upd e t v) K) :
    Seq P n ops w0 Cs (⟨some t, op, ty, pos, af, none⟩ :: rest) H e K := by
  intro a w hf hw
  simp only [wpList]
  rw [if_pos (wanted_none rfl _)]
  refine .inl ?_
  obtain ⟨v, w', H', hr, hu, hR⟩ := h w hw (some t) pos af none
  rcases hr with hr | ⟨hr, rfl⟩
  · simp only [Oper.wp, hf.eval, hr, Oper.upon]
    exact k _ _ hR _ w' (hf.put ht v) hu
  · simp only [Oper.wp, hf.eval, hr, Oper.upon]
    exact k _ _ hR _ w' (hf.put ht undef) hu
theorem Seq.f0 {R : Value → List Chunk → Prop} (h : Ef P w0 Cs H e op ty R) (k : ∀ v H', R v H' → Seq P n ops w0 Cs rest H' e K) :
    Seq P n ops w0 Cs (⟨none, op, ty, pos, af, none⟩ :: rest) H e K := by
  intro a w hf hw
  simp only [wpList]
  rw [if_pos (wanted_none rfl _)]
  refine .inl ?_
  obtain ⟨v, w', H', hr, hu, hR⟩ := h w hw none pos af none
  rcases hr with hr | ⟨hr, rfl⟩
  · simp only [Oper.wp, hf.eval, hr, Oper.upon]
    exact k _ _ hR _ w' hf hu
  · simp only [Oper.wp, hf.eval, hr, Oper.upon]
    exact k _ _ hR _ w' hf hu
theorem Seq.gy {g : Nat × Bool} {d : Nat} (hd : (ops[g.1]?).bind (·.dst) = some d) (hn : Nat.blt d n = true) (hg : e d = .bool g.2)
    (k : Seq P n ops w0 Cs (⟨some t, op, ty, pos, af, none⟩ :: rest) H e K) :
    Seq P n ops w0 Cs (⟨some t, op, ty, pos, af, some g⟩ :: rest) H e K := by
  intro a w hf hw
  have h := k a w hf hw
  have hy := hf.yielded hd hg hn
  simp only [wpList] at h ⊢
  rw [if_pos (wanted_none rfl _)] at h
  rw [if_pos (by simp [Region.wanted, hy])]
  exact h
theorem Seq.gn {g : Nat × Bool} {d : Nat} (hd : (ops[g.1]?).bind (·.dst) = some d) (hn : Nat.blt d n = true) (hg : e d = .bool (!g.2)) (ht : Nat.blt t n = true)
    (k : Seq P n ops w0 Cs rest H (upd e t undef) K) :
    Seq P n ops w0 Cs (⟨some t, op, ty, pos, af, some g⟩ :: rest) H e K := by
  intro a w hf hw
  have hy := hf.yielded hd hg hn
  simp only [wpList]
  rw [if_neg (by simp [Region.wanted, hy])]
  exact k _ w (hf.put ht undef) hw
theorem Seq.gu {g : Nat × Bool} {d : Nat} (hd : (ops[g.1]?).bind (·.dst) = some d) (hg : e d = undef) (ht : Nat.blt t n = true)
    (k : Seq P n ops w0 Cs rest H (upd e t undef) K) :
    Seq P n ops w0 Cs (⟨some t, op, ty, pos, af, some g⟩ :: rest) H e K := by
  intro a w hf hw
  have hy : Go.yielded ops a.tmps g.1 = none := by
    unfold Go.yielded
    rw [hd]
    have h2 := hf.at_ d
    rw [hg] at h2
    simp only [Option.bind_some]
    cases h3 : a.tmps[d]? with
    | none => rfl
    | some u =>
      simp [h3] at h2
      subst h2
      rfl
  simp only [wpList]
  rw [if_neg (by simp [Region.wanted, hy])]
  exact k _ w (hf.put ht undef) hw
end
end Go.Rx
/- The rule layer, second part: quiet regions, calls, control flow, entering and leaving a function. -/
namespace Go.Rx
open Go Go.RowKit
set_option linter.unusedVariables false
set_option linter.unusedSimpArgs false
section
variable {P : Program} {n : Nat} {ops : Array Oper} {w0 : World} {Cs H : List Chunk} {e : Env} {K : Env → Prop} {rest : List Oper}
  {t : Nat} {op : Op} {ty : TypeId} {pos : String} {af : Array Edge} {v : Value}
theorem Qui.nil (h : K e) : Qui P n ops w0 Cs H [] e K := fun a hf => ⟨e, hf, h⟩
theorem Qui.p (ht : Nat.blt t n = true) (h : Ev P w0 Cs H e op ty v) (k : Qui P n ops w0 Cs H rest (upd e t v) K) :
    Qui P n ops w0 Cs H (⟨some t, op, ty, pos, af, none⟩ :: rest) e K := by
  intro a hf
  unfold wpQuiet
  rw [if_pos (wanted_none rfl _)]
  refine ⟨v, fun w hw => ?_, k _ (hf.put ht v)⟩
  unfold Oper.quietAt
  rw [hf.eval, h w hw]
  exact ⟨rfl, rfl⟩
theorem Qui.gy {g : Nat × Bool} {d : Nat} (hd : (ops[g.1]?).bind (·.dst) = some d) (hn : Nat.blt d n = true) (hg : e d = .bool g.2)
    (k : Qui P n ops w0 Cs H (⟨some t, op, ty, pos, af, none⟩ :: rest) e K) :
    Qui P n ops w0 Cs H (⟨some t, op, ty, pos, af, some g⟩ :: rest) e K := by
  intro a hf
  have h := k a hf
  have hy := hf.yielded hd hg hn
  unfold wpQuiet at h ⊢
  rw [if_pos (wanted_none rfl _)] at h
  rw [if_pos (by simp [Region.wanted, hy])]
  exact h
theorem Qui.gn {g : Nat × Bool} {d : Nat} (hd : (ops[g.1]?).bind (·.dst) = some d) (hn : Nat.blt d n = true) (hg : e d = .bool (!g.2)) (ht : Nat.blt t n = true)
    (k : Qui P n ops w0 Cs H rest (upd e t undef) K) :
    Qui P n ops w0 Cs H (⟨some t, op, ty, pos, af, some g⟩ :: rest) e K := by
  intro a hf
  have hy := hf.yielded hd hg hn
  unfold wpQuiet
  rw [if_neg (by simp [Region.wanted, hy])]
  exact k _ (hf.put ht undef)
theorem yielded_undef {a : Act} {g : Nat × Bool} {d : Nat} (hf : Fits n e a) (hd : (ops[g.1]?).bind (·.dst) = some d) (hg : e d = undef) : Go.yielded ops a.tmps g.1 = none := by
  unfold Go.yielded
  rw [hd]
  have h2 := hf.at_ d
  rw [hg] at h2
  simp only [Option.bind_some]
  cases h3 : a.tmps[d]? with
  | none => rfl
  | some u =>
    simp [h3] at h2
    subst h2
    rfl
theorem Qui.gu {g : Nat × Bool} {d : Nat} (hd : (ops[g.1]?).bind (·.dst) = some d) (hg : e d = undef) (ht : Nat.blt t n = true)
    (k : Qui P n ops w0 Cs H rest (upd e t undef) K) :
    Qui P n ops w0 Cs H (⟨some t, op, ty, pos, af, some g⟩ :: rest) e K := by
  intro a hf
  have hy := yielded_undef hf hd hg
  unfold wpQuiet
  rw [if_neg (by simp [Region.wanted, hy])]
  exact k _ (hf.put ht undef)
end

/-! ### calls -/
section
variable {P : Program} {n : Nat} {ops : Array Oper} {w0 : World} {Cs H Gs F : List Chunk} {e : Env} {K : Env → List Chunk → Prop} {rest : List Oper}
  {t : Nat} {ty : TypeId} {pos : String} {af : Array Edge} {f : FuncId} {as : List Operand} {ats : Array TypeId} {Post : Value → List Chunk → Prop}
theorem run_enter (h : Enters P f) (ρ : Operand → Value) (x : Operand) (first cap : Array Value) (hx : ρ x = .func (.func f) first cap) (d : Option Tmp) (g : Option (Nat × Bool)) (w : World) :
    (execOp ρ ⟨d, .call ⟨.value x, as.toArray, ats⟩, ty, pos, af, g⟩).run P w = .ok (.enter f (first ++ (as.map ρ).toArray ++ cap)) w := by
  obtain ⟨fn, hf, hn, hb⟩ := h
  have hn' : ¬ fn.name = "runtime.NumGoroutine" := by simpa using hn
  have hb' : ¬ fn.body = none := by cases h : fn.body <;> simp_all
  simp [execOp, resolve, Deferred.ofValue, invoke, callFunc, hx, hf, hn', hb']
theorem Spec.mono {args : Array Value} {w : World} {Post' : Value → List Chunk → Prop} (h : Spec P f args w Gs Post) (hp : ∀ v H', Post v H' → Post' v H') : Spec P f args w Gs Post' :=
  ⟨h.1, h.2.mono fun e w' ⟨v, H', a, b, c⟩ => ⟨v, H', a, b, hp _ _ c⟩⟩
theorem Seq.call (ht : Nat.blt t n = true) (hs : ∀ w, Upd w0 w Cs H → Spec P f (as.map (ev e)).toArray w Gs Post) (hp : (Gs ++ F).Perm H)
    (k : ∀ v H', Post v H' → Seq P n ops w0 Cs rest (H' ++ F) (upd e t v) K) :
    Seq P n ops w0 Cs (⟨some t, .call ⟨.value (.func f), as.toArray, ats⟩, ty, pos, af, none⟩ :: rest) H e K := by
  intro a w hf hw
  obtain ⟨hent, hc⟩ := hs w hw
  simp only [wpList]
  rw [if_pos (wanted_none rfl _)]
  refine .inl ?_
  simp only [Oper.wp, hf.eval, run_enter hent (ev e) (.func f) #[] #[] rfl, Oper.upon]
  simp only [Array.append_empty, Array.empty_append]
  refine hc.mono ?_
  rintro en w' ⟨v, H', rfl, hu, hpost⟩
  exact k v H' hpost _ w' (hf.put ht v) (Upd.step (hw.perm hp.symm) hu)
theorem Seq.callP {v : Value} (ht : Nat.blt t n = true) (hs : ∀ w, Upd w0 w Cs H → Spec P f (as.map (ev e)).toArray w [] (fun u _ => u = v))
    (k : Seq P n ops w0 Cs rest H (upd e t v) K) :
    Seq P n ops w0 Cs (⟨some t, .call ⟨.value (.func f), as.toArray, ats⟩, ty, pos, af, none⟩ :: rest) H e K := by
  refine Seq.call ht hs (F := H) (by simp) ?_
  rintro u H' rfl a w hf hw
  exact k a w hf (hw.part ⟨H', List.perm_append_comm⟩)
theorem Qui.call {v : Value} {K : Env → Prop} (ht : Nat.blt t n = true) (hs : ∀ w, Upd w0 w Cs H → Spec P f (as.map (ev e)).toArray w [] (fun u _ => u = v))
    (k : Qui P n ops w0 Cs H rest (upd e t v) K) :
    Qui P n ops w0 Cs H (⟨some t, .call ⟨.value (.func f), as.toArray, ats⟩, ty, pos, af, none⟩ :: rest) e K := by
  intro a hf
  unfold wpQuiet
  rw [if_pos (wanted_none rfl _)]
  refine ⟨v, fun w hw => ?_, k _ (hf.put ht v)⟩
  obtain ⟨hent, hc⟩ := hs w hw
  unfold Oper.quietAt
  rw [hf.eval, run_enter hent (ev e) (.func f) #[] #[] rfl]
  refine ⟨rfl, ?_⟩
  simp only [Array.append_empty, Array.empty_append]
  refine hc.mono ?_
  rintro en w' ⟨u, H', rfl, hu, rfl⟩
  refine ⟨rfl, ?_⟩
  have h2 : Upd w w' [] [] := hu.part (Part.nil _)
  exact Upd.step (Gs := []) (H' := []) hw h2
end

/-! ### control -/
section
variable {P : Program} {n : Nat} {w0 : World} {Cs H : List Chunk} {e : Env} {Q : Exit → Env → List Chunk → Prop}
theorem JC.mono {c : Code} {Q' : Exit → Env → List Chunk → Prop} (h : JC P n w0 Cs c H e Q) (hq : ∀ x e H, Q x e H → Q' x e H) : JC P n w0 Cs c H e Q' :=
  fun a w hf hw => wp_mono (h a w hf hw) fun x a' w' ⟨e', H', h1, h2, h3⟩ => ⟨e', H', h1, h2, hq _ _ _ h3⟩
theorem JC.part {c : Code} {H' : List Chunk} (hp : Part H' H) (h : JC P n w0 Cs c H' e Q) : JC P n w0 Cs c H e Q :=
  fun a w hf hw => h a w hf (hw.part hp)
theorem JC.skip (h : Q .normal e H) : JC P n w0 Cs .skip H e Q := fun a w hf hw => wp_skip ⟨e, H, hf, hw, h⟩
theorem JC.ret (h : Q .ret e H) : JC P n w0 Cs .ret H e Q := fun a w hf hw => wp_ret ⟨e, H, hf, hw, h⟩
theorem JC.exit {id : Nat} (h : Q (.exit id) e H) : JC P n w0 Cs (.exit id) H e Q := fun a w hf hw => wp_exit ⟨e, H, hf, hw, h⟩
abbrev thenQ (next : Env → List Chunk → Prop) (Q : Exit → Env → List Chunk → Prop) : Exit → Env → List Chunk → Prop
  | .normal, e, H => next e H
  | x, e, H => Q x e H
theorem JC.seq {x y : Code} (h : JC P n w0 Cs x H e (thenQ (fun e' H' => JC P n w0 Cs y H' e' Q) Q)) : JC P n w0 Cs (.seq x y) H e Q := by
  intro a w hf hw
  refine wp_seq (wp_mono (h a w hf hw) ?_)
  rintro ex a' w' ⟨e', H', h1, h2, h3⟩
  cases ex with
  | normal => exact h3 a' w' h1 h2
  | _ => exact ⟨e', H', h1, h2, h3⟩
theorem JC.cut {x y : Code} (M : Env → List Chunk → Prop) (h : JC P n w0 Cs x H e (thenQ M Q)) (k : ∀ e' H', M e' H' → JC P n w0 Cs y H' e' Q) : JC P n w0 Cs (.seq x y) H e Q := by
  refine JC.seq (h.mono ?_)
  intro ex e' H' hq
  cases ex with
  | normal => exact k _ _ hq
  | _ => exact hq
theorem JC.cond {c : Operand} {x y : Code} {b : Bool} (hc : ev e c = .bool b) (ht : b = true → JC P n w0 Cs x H e Q) (hf : b = false → JC P n w0 Cs y H e Q) : JC P n w0 Cs (.cond c x y) H e Q := by
  intro a w hfit hw
  have hc' : a.eval c = .bool b := by rw [hfit.eval]; exact hc
  exact wp_cond_split hc' (fun h => ht h a w hfit hw) (fun h => hf h a w hfit hw)
theorem JC.condP {c : Operand} {x y : Code} {p : Prop} [Decidable p] (hc : ev e c = .bool (decide p)) (ht : p → JC P n w0 Cs x H e Q) (hf : ¬ p → JC P n w0 Cs y H e Q) : JC P n w0 Cs (.cond c x y) H e Q :=
  JC.cond hc (fun h => ht (of_decide_eq_true h)) (fun h => hf (of_decide_eq_false h))
theorem JC.condT {c : Operand} {x y : Code} (hc : ev e c = .bool true) (h : JC P n w0 Cs x H e Q) : JC P n w0 Cs (.cond c x y) H e Q :=
  JC.cond hc (fun _ => h) (fun h => by cases h)
theorem JC.condF {c : Operand} {x y : Code} (hc : ev e c = .bool false) (h : JC P n w0 Cs y H e Q) : JC P n w0 Cs (.cond c x y) H e Q :=
  JC.cond hc (fun h => by cases h) (fun _ => h)
abbrev blockQ (id : Nat) (Q : Exit → Env → List Chunk → Prop) : Exit → Env → List Chunk → Prop
  | .exit id', e, H => if id' = id then Q .normal e H else Q (.exit id') e H
  | x, e, H => Q x e H
theorem JC.block {id : Nat} {c : Code} (h : JC P n w0 Cs c H e (blockQ id Q)) : JC P n w0 Cs (.block id c) H e Q := by
  intro a w hf hw
  refine wp_block (wp_mono (h a w hf hw) ?_)
  rintro ex a' w' ⟨e', H', h1, h2, h3⟩
  cases ex with
  | exit id' =>
    simp only [blockQ] at h3
    simp only [Exit.inBlock]
    split at h3
    · rename_i he; rw [if_pos he]; exact ⟨e', H', h1, h2, h3⟩
    · rename_i he; rw [if_neg he]; exact ⟨e', H', h1, h2, h3⟩
  | _ => exact ⟨e', H', h1, h2, h3⟩
theorem JC.loop {α : Type} {c : Code} (I : α → Env → List Chunk → Prop) (μ : α → Nat) (x0 : α) (h0 : I x0 e H)
    (round : ∀ x e H, I x e H → JC P n w0 Cs c H e (thenQ (fun e' H' => ∃ x' H'', Part H'' H' ∧ I x' e' H'' ∧ μ x' < μ x) Q)) : JC P n w0 Cs (.loop c) H e Q := by
  intro a w hf hw b k cs
  have key : ∀ (m : Nat) (x : α) (e : Env) (H : List Chunk) (a : Act) (w : World), μ x = m → Fits n e a → Upd w0 w Cs H → I x e H →
      ∃ ex a' w', (∃ e' H', Fits n e' a' ∧ Upd w0 w' Cs H' ∧ Q ex e' H') ∧ Arrives P (lone (b.at a (.code c :: .inLoop c :: k)) cs w) b k cs ex a' w' := by
    intro m
    induction m using Nat.strongRecOn with
    | _ m ih =>
      intro x e H a w hm hf hw hI
      obtain ⟨ex, a₁, w₁, ⟨e1, H1, hf1, hw1, hq⟩, harr⟩ := round x e H hI a w hf hw b (.inLoop c :: k) cs
      cases ex with
      | normal =>
        obtain ⟨x', H'', hp, hI', hlt⟩ := hq
        obtain ⟨e₂, a₂, w₂, hq₂, harr₂⟩ := ih (μ x') (hm ▸ hlt) x' e1 H'' a₁ w₁ rfl hf1 (hw1.part hp) hI'
        exact ⟨e₂, a₂, w₂, hq₂, .of_steps (Steps.trans harr (.one step_inLoop)) harr₂⟩
      | exit id => exact ⟨_, a₁, w₁, ⟨e1, H1, hf1, hw1, hq⟩, .pass (x := .inLoop c) rfl (fun _ _ => .inl (by simp)) harr⟩
      | goto l => exact ⟨_, a₁, w₁, ⟨e1, H1, hf1, hw1, hq⟩, .pass (x := .inLoop c) rfl (fun _ _ => .inl (by simp)) harr⟩
      | ret => exact ⟨_, a₁, w₁, ⟨e1, H1, hf1, hw1, hq⟩, .pass (x := .inLoop c) rfl (fun _ _ => .inl (by simp)) harr⟩
      | panic ch => exact ⟨_, a₁, w₁, ⟨e1, H1, hf1, hw1, hq⟩, .pass (x := .inLoop c) rfl (fun _ _ => .inl (by simp)) harr⟩
      | outgrown => exact ⟨_, a₁, w₁, ⟨e1, H1, hf1, hw1, hq⟩, .pass (x := .inLoop c) rfl (fun _ _ => .inl (by simp)) harr⟩
  obtain ⟨ex, a', w', hq, harr⟩ := key _ x0 e H a w rfl hf hw h0
  exact ⟨ex, a', w', hq, .of_steps (.one step_loop) harr⟩
theorem JC.reg {id : Nat} {l : List Oper} (h : Seq P n l.toArray w0 Cs l H e (fun e' H' => Q .normal e' H')) : JC P n w0 Cs (.region id l.toArray false) H e Q := by
  intro a w hf hw
  refine wp_mono (wp_region_lit (h a w hf hw)) ?_
  rintro ex a' w' ⟨rfl, e', H', h1, h2, h3⟩
  exact ⟨e', H', h1, h2, h3⟩
theorem Oper.quiet_mono' {P : Program} {o : Oper} {a : Act} {C : World → Prop} {K K' : Act → Prop} (h : ∀ a, K a → K' a) (hh : o.quiet P a C K) : o.quiet P a C K' :=
  let ⟨v, h1, h2⟩ := hh
  ⟨v, h1, h _ h2⟩
theorem wpQuiet_mono {P : Program} {ops : Array Oper} {C : World → Prop} {Q Q' : Act → Prop} (h : ∀ a, Q a → Q' a) : ∀ (l : List Oper) (a : Act), wpQuiet P ops C Q l a → wpQuiet P ops C Q' l a
  | [], a, hh => h a hh
  | o :: rest, a, hh => by
    unfold wpQuiet at hh ⊢
    split
    · rename_i hw
      rw [if_pos hw] at hh
      exact Oper.quiet_mono' (fun a => wpQuiet_mono h rest a) hh
    · rename_i hw
      rw [if_neg hw] at hh
      exact wpQuiet_mono h rest _ hh
theorem JC.quiet {id : Nat} {l : List Oper} (hm : P.follows .mixedOrders = true) (hB : Region.lexB .any l.toArray = true) (h : Qui P n l.toArray w0 Cs H l e (fun e' => Q .normal e' H)) :
    JC P n w0 Cs (.region id l.toArray true) H e Q := by
  intro a w hf hw
  refine wp_region_quiet (C := fun w => Upd w0 w Cs H) hm hB hw.drawn ?_
  refine wpQuiet_mono ?_ _ _ (h a hf)
  rintro a' ⟨e', h1, h2⟩ w' hw'
  exact ⟨e', H, h1, hw', h2⟩
end

/-! ### a whole function -/
def env0 (l : List Value) : Env := fun j => l.getD j undef
section
variable {P : Program} {w0 : World} {Cs H : List Chunk} {e : Env}
inductive RV (P : Program) (w0 : World) (Cs H : List Chunk) (e : Env) : ResultVar → Value → Prop
  | tmp (t : Tmp) : RV P w0 Cs H e (.tmp t) (e t)
  | cell (a : Tmp) (ty : TypeId) (ad : Addr) (v : Value) (ha : e a = .pointer (some ad)) (hv : ∀ w, Upd w0 w Cs H → (loadVar ty ad).run P w = .ok v w) : RV P w0 Cs H e (.cell a ty) v
def pack : List Value → Value
  | [v] => v
  | vs => .tuple vs.toArray
inductive RVs (P : Program) (w0 : World) (Cs H : List Chunk) (e : Env) : List ResultVar → List Value → Prop
  | nil : RVs P w0 Cs H e [] []
  | cons {r : ResultVar} {v : Value} {rs : List ResultVar} {vs : List Value} (h : RV P w0 Cs H e r v) (hs : RVs P w0 Cs H e rs vs) : RVs P w0 Cs H e (r :: rs) (v :: vs)
theorem run_mapM_list {f : ResultVar → Sem Value} {w : World} : ∀ (l : List ResultVar) (vs : List Value), (∀ i (h : i < l.length), ∃ v, vs[i]? = some v ∧ (f l[i]).run P w = .ok v w) → l.length = vs.length → (l.mapM f).run P w = .ok vs w
  | [], vs, _, hl => by
    have : vs = [] := List.eq_nil_of_length_eq_zero (by simpa using hl.symm)
    subst this
    simp
  | r :: l, vs, h, hl => by
    cases vs with
    | nil => simp at hl
    | cons v vs =>
      obtain ⟨u, hu, hr⟩ := h 0 (by simp)
      simp at hu
      subst hu
      have ih := run_mapM_list l vs (fun i hi => by
        obtain ⟨u, hu, hr⟩ := h (i + 1) (by simpa using hi)
        exact ⟨u, by simpa using hu, by simpa using hr⟩) (by simpa using hl)
      simp only [List.getElem_cons_zero] at hr
      simp [List.mapM_cons, hr, ih]
theorem RVs.get {rs : List ResultVar} {vs : List Value} (h : RVs P w0 Cs H e rs vs) : rs.length = vs.length ∧ ∀ i (hi : i < rs.length), ∃ v, vs[i]? = some v ∧ RV P w0 Cs H e rs[i] v := by
  induction h with
  | nil => exact ⟨rfl, fun i hi => by simp at hi⟩
  | cons h _ ih =>
    refine ⟨by simp [ih.1], fun i hi => ?_⟩
    cases i with
    | zero => exact ⟨_, rfl, h⟩
    | succ i =>
      obtain ⟨v, h1, h2⟩ := ih.2 i (by simpa using hi)
      exact ⟨v, by simpa using h1, by simpa using h2⟩
theorem run_results {fn : Func} {rs : List ResultVar} {vs : List Value} (hr : fn.results = rs.toArray) (h : RVs P w0 Cs H e rs vs) {n : Nat} {a : Act} {w : World} (hf : Fits n e a) (hw : Upd w0 w Cs H) :
    (results fn a.tmps).run P w = .ok (pack vs) w := by
  have hg := h.get
  have key := run_mapM_list (P := P) (w := w) (f := fun | .tmp t => pure (a.tmps.getD t undef) | .cell b t => do loadVar t (← asAddr (a.tmps.getD b undef))) rs vs (fun i hi => by
    obtain ⟨v, h1, h2⟩ := hg.2 i hi
    refine ⟨v, h1, ?_⟩
    cases hri : rs[i] with
    | tmp t =>
      rw [hri] at h2
      cases h2
      have := hf.at_ t
      simp only [Sem.run_pure, this]
    | cell b ty =>
      rw [hri] at h2
      cases h2 with
      | cell _ _ ad _ ha hv =>
        have := hf.at_ b
        rw [ha] at this
        simp only [this, asAddr, pure_bind]
        exact hv w hw) hg.1
  have hmap : (results fn a.tmps) = ((rs.mapM (fun | ResultVar.tmp t => (pure (a.tmps.getD t undef) : Sem Value) | .cell b t => do loadVar t (← asAddr (a.tmps.getD b undef)))) >>= fun l => pure (pack l)) := by
    unfold results
    rw [hr, List.mapM_toArray]
    simp only [map_eq_pure_bind, bind_assoc, pure_bind]
    congr 1
    funext l
    cases l with
    | nil => rfl
    | cons v vs => cases vs <;> simp [pack]
  rw [hmap, Sem.run_bind, key, Result.andThen_ok, Sem.run_pure]
def retQ (P : Program) (w0 : World) (Cs : List Chunk) (rs : List ResultVar) (Post : Value → List Chunk → Prop) : Exit → Env → List Chunk → Prop
  | .normal, e, H | .ret, e, H => ∃ vs H', RVs P w0 Cs H e rs vs ∧ Part H' H ∧ Post (pack vs) H'
  | _, _, _ => False
theorem Spec.enter {f : FuncId} {fn : Func} {c : Code} {n : Nat} {rs : List ResultVar} {Gs : List Chunk} {Post : Value → List Chunk → Prop} {w : World} (args : List Value)
    (hf : P.funcs[f]? = some fn) (hn : (fn.name == "runtime.NumGoroutine") = false) (hb : fn.body = some c) (hnt : fn.ntmps = n) (hres : fn.results = rs.toArray) (hlen : Nat.ble args.length n = true)
    (hown : Own w Gs) (h : JC P n w Gs c Gs (env0 args) (retQ P w Gs rs Post)) : Spec P f args.toArray w Gs Post := by
  refine ⟨⟨fn, hf, hn, by simp [hb]⟩, calls_of_wp hf hb ?_⟩
  have hle : args.length ≤ n := by simpa using hlen
  have hfit : Fits n (env0 args) { tmps := args.toArray ++ Array.replicate (fn.ntmps - args.toArray.size) undef, defers := [] } := by
    refine ⟨by simp [hnt]; omega, fun j => ?_, rfl⟩
    simp only [env0]
    by_cases hj : j < args.length
    · simp [Array.getElem?_append, hj]
    · simp [Array.getElem?_append, hj]
      rw [Array.getElem?_replicate]
      split <;> simp_all
  refine wp_mono (h _ w hfit (Upd.refl hown)) ?_
  rintro ex a' w' ⟨e', H', h1, h2, h3⟩
  cases ex with
  | normal =>
    obtain ⟨vs, H'', hrv, hp, hpost⟩ := h3
    exact ⟨h1.defers, _, run_results hres hrv h1 h2, _, H'', rfl, h2.part hp, hpost⟩
  | ret =>
    obtain ⟨vs, H'', hrv, hp, hpost⟩ := h3
    exact ⟨h1.defers, _, run_results hres hrv h1 h2, _, H'', rfl, h2.part hp, hpost⟩
  | _ => exact h3.elim
end
end Go.Rx
/- The rule layer, third part: single operations. -/
namespace Go.Rx
open Go Go.RowKit
set_option linter.unusedVariables false
set_option linter.unusedSimpArgs false

/-! ### looking up a slot -/
structure Look (e : Env) (x : Operand) (v : Value) : Prop where
  eq : ev e x = v
theorem Look.const {e : Env} {v : Value} : Look e (.const v) v := ⟨rfl⟩
theorem Look.func {e : Env} {f : FuncId} : Look e (.func f) (.func (.func f) #[] #[]) := ⟨rfl⟩
theorem Look.here {e : Env} {t : Nat} {v : Value} : Look (upd e t v) (.tmp t) v := ⟨upd_same e t v⟩
theorem Look.there {e : Env} {t j : Nat} {v u : Value} (h : Look e (.tmp j) v) (hne : Nat.beq j t = false) : Look (upd e t u) (.tmp j) v := by
  refine ⟨?_⟩
  show upd e t u j = v
  unfold upd
  rw [hne]
  exact h.eq
theorem Look.mix {D : List Nat} {u e0 : Env} {j : Nat} {v : Value} (hD : D.elem j = false) (h : Look e0 (.tmp j) v) : Look (mix D u e0) (.tmp j) v := by
  refine ⟨?_⟩
  show Rx.mix D u e0 j = v
  unfold Rx.mix
  rw [hD]
  exact h.eq
theorem Look.arg0 {v : Value} {l : List Value} : Look (env0 (v :: l)) (.tmp 0) v := ⟨rfl⟩
theorem Look.args {u v : Value} {l : List Value} {j : Nat} (h : Look (env0 l) (.tmp j) v) : Look (env0 (u :: l)) (.tmp (j + 1)) v := ⟨h.eq⟩

/-! ### loops: a frame known at some slots over another one -/
structure Off (D : List Nat) (e e0 : Env) : Prop where
  eq : ∀ j, D.elem j = false → e j = e0 j
theorem Off.refl {D : List Nat} {e : Env} : Off D e e := ⟨fun _ _ => rfl⟩
theorem Off.mix {D : List Nat} {u e : Env} : Off D (Rx.mix D u e) e := ⟨fun j hj => by simp only [Rx.mix, hj]⟩
theorem Off.upd {D : List Nat} {e e0 : Env} {t : Nat} {v : Value} (h : Off D e e0) (ht : D.elem t = true) : Off D (upd e t v) e0 := by
  refine ⟨fun j hj => ?_⟩
  rw [upd_ne]
  · exact h.eq j hj
  · rintro rfl
    rw [ht] at hj
    cases hj
theorem Off.mix2 {D D' : List Nat} {u e e0 : Env} (h : Off D e e0) (hs : (D'.all fun j => D.elem j) = true) : Off D (Rx.mix D' u e) e0 := by
  refine ⟨fun j hj => ?_⟩
  unfold Rx.mix
  cases hj2 : D'.elem j with
  | false => exact h.eq j hj
  | true =>
    have := List.all_eq_true.1 hs j (by simpa using hj2)
    rw [hj] at this
    cases this
def Has (D : List Nat) (l : List (Nat × Value)) (e0 e : Env) : Prop := ∃ u, e = setL (Rx.mix D u e0) l
theorem Has.mk {D : List Nat} {l : List (Nat × Value)} {e0 e : Env} (h : Off D e e0) (hl : ∀ p ∈ l, Look e (.tmp p.1) p.2) : Has D l e0 e := by
  refine ⟨e, ?_⟩
  have h1 : Rx.mix D e e0 = e := by
    funext j
    unfold Rx.mix
    cases hj : D.elem j with
    | true => rfl
    | false => exact (h.eq j hj).symm
  rw [h1]
  induction l with
  | nil => rfl
  | cons p l ih =>
    obtain ⟨t, v⟩ := p
    have ih' := ih (fun q hq => hl q (List.mem_cons_of_mem _ hq))
    show e = upd (setL e l) t v
    rw [← ih']
    funext j
    by_cases hj : j = t
    · subst hj
      rw [upd_same]
      exact (hl (j, v) (List.mem_cons_self ..)).eq
    · rw [upd_ne _ _ hj]
theorem allLook_nil {e : Env} : ∀ p ∈ ([] : List (Nat × Value)), Look e (.tmp p.1) p.2 := by simp
theorem allLook_cons {e : Env} {t : Nat} {v : Value} {l : List (Nat × Value)} (h : Look e (.tmp t) v) (hl : ∀ p ∈ l, Look e (.tmp p.1) p.2) : ∀ p ∈ (t, v) :: l, Look e (.tmp p.1) p.2 := by
  intro p hp
  rcases List.mem_cons.1 hp with rfl | hp
  · exact h
  · exact hl p hp

/-! ### facts of types, as computed words -/
def isSc (P : Program) (t : TypeId) : Bool := match P.underlying t with | some (.struct _) | some (.array ..) | none => false | _ => true
def isAg (P : Program) (t : TypeId) (n : Nat) : Bool := (match P.underlying t with | some (.struct _) | some (.array ..) => true | _ => false) && (match P.info? t with | some i => i.size == n | none => false)
def szOf (P : Program) (t : TypeId) (n : Nat) : Bool := match P.info? t with | some i => i.size == n | none => false
def fldOf (P : Program) (s : TypeId) (f off : Nat) (ft : TypeId) (n : Nat) : Bool := match P.underlying s with | some (.struct fs) => (match fs[f]? with | some x => x.offset == off && x.type == ft && szOf P ft n && decide (n ≠ 0) | none => false) | _ => false
def slcOf (P : Program) (s : TypeId) (el : TypeId) (n : Nat) : Bool := (match P.underlying s with | some (.slice x) => x == el | _ => false) && szOf P el n
def arrOf (P : Program) (s : TypeId) (len : Nat) (el : TypeId) (n : Nat) : Bool := (match P.underlying s with | some (.array m x) => m == len && x == el | _ => false) && szOf P el n
def intOfT (P : Program) (t : TypeId) (k : IntKind) : Bool := match P.underlying t with | some (.int j) => j == k | _ => false
def isStr (P : Program) (t : TypeId) : Bool := match P.underlying t with | some .string => true | _ => false
def isBoolT (P : Program) (t : TypeId) : Bool := match P.underlying t with | some .bool => true | _ => false
theorem isSc_run {P : Program} {t : TypeId} (h : isSc P t = true) (w : World) : (isAgg t).run P w = .ok false w := by
  unfold isSc at h
  unfold isAgg underlying
  cases hu : P.underlying t with
  | none => simp [hu] at h
  | some d => cases d <;> simp_all
theorem szOf_run {P : Program} {t : TypeId} {n : Nat} (h : szOf P t n = true) (w : World) : (sizeOf t).run P w = .ok n w := by
  unfold szOf at h
  unfold sizeOf typeInfo
  cases hu : P.info? t with
  | none => simp [hu] at h
  | some d => simp_all
theorem isAg_run {P : Program} {t : TypeId} {n : Nat} (h : isAg P t n = true) (w : World) : (isAgg t).run P w = .ok true w ∧ (sizeOf t).run P w = .ok n w := by
  unfold isAg at h
  simp only [Bool.and_eq_true] at h
  refine ⟨?_, szOf_run h.2 w⟩
  have h1 := h.1
  unfold isAgg underlying
  cases hu : P.underlying t with
  | none => simp [hu] at h1
  | some d => cases d <;> simp_all
theorem fldOf_run {P : Program} {s ft : TypeId} {f off n : Nat} (h : fldOf P s f off ft n = true) (ad : Addr) (w : World) : (Instr.fieldAt s (.pointer (some ad)) f).run P w = .ok (.pointer (some (ad.add off))) w := by
  unfold fldOf at h
  split at h
  · rename_i fs hs
    split at h
    · rename_i x hx
      simp only [Bool.and_eq_true, beq_iff_eq, decide_eq_true_eq] at h
      obtain ⟨⟨⟨rfl, rfl⟩, hz⟩, hn⟩ := h
      simp [Instr.fieldAt, run_underlying hs, hx, Instr.sureAddr, fieldPlace, szOf_run hz, hn]
    · cases h
  · cases h
theorem slcOf_und {P : Program} {s el : TypeId} {n : Nat} (h : slcOf P s el n = true) : P.underlying s = some (.slice el) ∧ szOf P el n = true := by
  unfold slcOf at h
  simp only [Bool.and_eq_true] at h
  refine ⟨?_, h.2⟩
  have h1 := h.1
  split at h1
  · rename_i x hx; rw [hx]; simp at h1; rw [h1]
  · cases h1
theorem arrOf_und {P : Program} {s el : TypeId} {n len : Nat} (h : arrOf P s len el n = true) : P.underlying s = some (.array len el) ∧ szOf P el n = true := by
  unfold arrOf at h
  simp only [Bool.and_eq_true] at h
  refine ⟨?_, h.2⟩
  have h1 := h.1
  split at h1
  · rename_i m x hx; rw [hx]; simp at h1; rw [h1.1, h1.2]
  · cases h1
theorem intOfT_und {P : Program} {t : TypeId} {k : IntKind} (h : intOfT P t k = true) : P.underlying t = some (.int k) := by
  unfold intOfT at h
  split at h
  · rename_i j hx; rw [hx]; simp at h; rw [h]
  · cases h
theorem isStr_und {P : Program} {t : TypeId} (h : isStr P t = true) : P.underlying t = some .string := by
  unfold isStr at h
  split at h
  · assumption
  · cases h
theorem isBoolT_und {P : Program} {t : TypeId} (h : isBoolT P t = true) : P.underlying t = some .bool := by
  unfold isBoolT at h
  split at h
  · assumption
  · cases h

/-! ### memory that is only read -/
def Cell (w : World) (Cs : List Chunk) (a : Addr) (v : Value) : Prop := w.cell? a = some v ∧ ∀ c ∈ Cs, ¬ c.fp a.block
theorem Cell.up {w0 w : World} {Cs H : List Chunk} {a : Addr} {v : Value} (h : Cell w0 Cs a v) (hw : Upd w0 w Cs H) : w.cell? a = some v :=
  (World.cell?_of_block (hw.keep a.block (World.block_lt_of_cell? w0 a h.1) h.2)).trans h.1
theorem Cell.at_ {w0 w : World} {Cs H : List Chunk} {a : Addr} {v : Value} (h : Cell w0 Cs a v) (hw : Upd w0 w Cs H) : Cell w H a v := by
  refine ⟨h.up hw, fun c hc hfp => ?_⟩
  rcases hw.fresh c hc _ hfp with ⟨d, hd, hdf⟩ | hge
  · exact h.2 d hd hdf
  · have := World.block_lt_of_cell? w0 a h.1
    omega
theorem Cell.part {w : World} {H H' : List Chunk} {a : Addr} {v : Value} (h : Cell w H a v) (hp : Part H' H) : Cell w H' a v :=
  ⟨h.1, fun c hc => h.2 c (hp.mem hc)⟩
def sbase : Value → Addr
  | .slice (some a) _ _ => a
  | _ => default
structure RSl {α : Type} [Inhabited α] (enc : α → List Value) (sz : Nat) (w : World) (Cs : List Chunk) (v : Value) (xs : List α) : Prop where
  shape : ∃ A c, v = .slice A xs.length c ∧ xs.length ≤ c ∧ (A = none → xs = [])
  small : xs.length ≤ 4611686018427387904
  size : ∀ x ∈ xs, (enc x).length = sz
  cell : ∀ i, i < xs.length → ∀ j u, (enc xs[i]!)[j]? = some u → Cell w Cs ((sbase v).add (i * sz + j)) u
theorem RSl.at_ {α : Type} [Inhabited α] {enc : α → List Value} {sz : Nat} {w0 w : World} {Cs H : List Chunk} {v : Value} {xs : List α} (h : RSl enc sz w0 Cs v xs) (hw : Upd w0 w Cs H) : RSl enc sz w H v xs :=
  ⟨h.shape, h.small, h.size, fun i hi j u hu => (h.cell i hi j u hu).at_ hw⟩
theorem RSl.part {α : Type} [Inhabited α] {enc : α → List Value} {sz : Nat} {w : World} {H H' : List Chunk} {v : Value} {xs : List α} (h : RSl enc sz w H v xs) (hp : Part H' H) : RSl enc sz w H' v xs :=
  ⟨h.shape, h.small, h.size, fun i hi j u hu => (h.cell i hi j u hu).part hp⟩
theorem RSl.up {α : Type} [Inhabited α] {enc : α → List Value} {sz : Nat} {w0 w : World} {Cs H : List Chunk} {v : Value} {xs : List α} (h : RSl enc sz w0 Cs v xs) (hw : Upd w0 w Cs H) : RSl enc sz w [] v xs :=
  (h.at_ hw).part (Part.nil _)
theorem Addr.add_add (a : Addr) (m n : Nat) : (a.add m).add n = a.add (m + n) := by
  unfold Addr.add
  by_cases hm : m = 0 <;> by_cases hn : n = 0 <;> simp [hm, hn, Nat.add_assoc]
theorem Addr.add_zero (a : Addr) : a.add 0 = a := by simp [Addr.add]

section
variable {P : Program} {w0 : World} {Cs H : List Chunk} {e : Env} {ty : TypeId} {x y : Operand}

/-! ### numbers -/
theorem Ev.move {v : Value} (hx : Look e x v := by repeat (first | exact Look.here | apply Look.there (hne := rfl) | exact Look.const | apply Look.mix rfl | exact Look.arg0 | apply Look.args | exact Look.func)) : Ev P w0 Cs H e (.move x) ty v := by
  intro w _ d pos af g
  replace hx := hx.eq
  simp only [execOp]
  rw [hx]; rfl
theorem Ev.assign {v : Value} (hx : Look e x v := by repeat (first | exact Look.here | apply Look.there (hne := rfl) | exact Look.const | apply Look.mix rfl | exact Look.arg0 | apply Look.args | exact Look.func)) : Ev P w0 Cs H e (.assign x) ty v := by
  intro w _ d pos af g
  replace hx := hx.eq
  simp only [execOp]
  rw [hx]; rfl
theorem Ev.pick {c : Operand} {b : Bool} {v u : Value} (hc : Look e c (.bool b) := by repeat (first | exact Look.here | apply Look.there (hne := rfl) | exact Look.const | apply Look.mix rfl | exact Look.arg0 | apply Look.args | exact Look.func)) (hx : Look e x v := by repeat (first | exact Look.here | apply Look.there (hne := rfl) | exact Look.const | apply Look.mix rfl | exact Look.arg0 | apply Look.args | exact Look.func)) (hy : Look e y u := by repeat (first | exact Look.here | apply Look.there (hne := rfl) | exact Look.const | apply Look.mix rfl | exact Look.arg0 | apply Look.args | exact Look.func)) :
    Ev P w0 Cs H e (.pick c x y) ty (if b then v else u) := by
  intro w _ d pos af g
  replace hc := hc.eq
  replace hx := hx.eq
  replace hy := hy.eq
  simp [execOp, hc, hx, hy, asBool]
theorem Ev.pickT {c : Operand} {v : Value} (hc : Look e c (.bool true) := by repeat (first | exact Look.here | apply Look.there (hne := rfl) | exact Look.const | apply Look.mix rfl | exact Look.arg0 | apply Look.args | exact Look.func)) (hx : Look e x v := by repeat (first | exact Look.here | apply Look.there (hne := rfl) | exact Look.const | apply Look.mix rfl | exact Look.arg0 | apply Look.args | exact Look.func)) : Ev P w0 Cs H e (.pick c x y) ty v := by
  intro w _ d pos af g
  replace hc := hc.eq
  replace hx := hx.eq
  simp [execOp, hc, hx, asBool]
theorem Ev.pickF {c : Operand} {v : Value} (hc : Look e c (.bool false) := by repeat (first | exact Look.here | apply Look.there (hne := rfl) | exact Look.const | apply Look.mix rfl | exact Look.arg0 | apply Look.args | exact Look.func)) (hy : Look e y v := by repeat (first | exact Look.here | apply Look.there (hne := rfl) | exact Look.const | apply Look.mix rfl | exact Look.arg0 | apply Look.args | exact Look.func)) : Ev P w0 Cs H e (.pick c x y) ty v := by
  intro w _ d pos af g
  replace hc := hc.eq
  replace hy := hy.eq
  simp [execOp, hc, hy, asBool]
section
variable {tx ty' : TypeId} {k : IntKind} {a b : Int}
theorem eqGuard_int (op : BinOp) (t : TypeId) (w : World) : (eqGuard op t x y (.int k a) (.int k b)).run P w = .ok () w := by
  unfold eqGuard
  cases op <;> simp
theorem Ev.addW (hx : Look e x (.int k a) := by repeat (first | exact Look.here | apply Look.there (hne := rfl) | exact Look.const | apply Look.mix rfl | exact Look.arg0 | apply Look.args | exact Look.func)) (hy : Look e y (.int k b) := by repeat (first | exact Look.here | apply Look.there (hne := rfl) | exact Look.const | apply Look.mix rfl | exact Look.arg0 | apply Look.args | exact Look.func)) : Ev P w0 Cs H e (.binOp .add tx x y ty') ty (.int k (k.wrap (a + b))) := by
  intro w _ d pos af g
  replace hx := hx.eq
  replace hy := hy.eq
  simp [execOp, hx, hy, eqGuard_int, binOp, Op.intArith]
theorem Ev.subW (hx : Look e x (.int k a) := by repeat (first | exact Look.here | apply Look.there (hne := rfl) | exact Look.const | apply Look.mix rfl | exact Look.arg0 | apply Look.args | exact Look.func)) (hy : Look e y (.int k b) := by repeat (first | exact Look.here | apply Look.there (hne := rfl) | exact Look.const | apply Look.mix rfl | exact Look.arg0 | apply Look.args | exact Look.func)) : Ev P w0 Cs H e (.binOp .sub tx x y ty') ty (.int k (k.wrap (a - b))) := by
  intro w _ d pos af g
  replace hx := hx.eq
  replace hy := hy.eq
  simp [execOp, hx, hy, eqGuard_int, binOp, Op.intArith]
theorem Ev.mulW (hx : Look e x (.int k a) := by repeat (first | exact Look.here | apply Look.there (hne := rfl) | exact Look.const | apply Look.mix rfl | exact Look.arg0 | apply Look.args | exact Look.func)) (hy : Look e y (.int k b) := by repeat (first | exact Look.here | apply Look.there (hne := rfl) | exact Look.const | apply Look.mix rfl | exact Look.arg0 | apply Look.args | exact Look.func)) : Ev P w0 Cs H e (.binOp .mul tx x y ty') ty (.int k (k.wrap (a * b))) := by
  intro w _ d pos af g
  replace hx := hx.eq
  replace hy := hy.eq
  simp [execOp, hx, hy, eqGuard_int, binOp, Op.intArith]
theorem wrap_i64 (n : Int) (h : -9223372036854775808 ≤ n ∧ n ≤ 9223372036854775807) : IntKind.i64.wrap n = n := by
  simp only [IntKind.wrap, IntKind.bits, IntKind.signed]
  simp
  omega
theorem wrap_u64 (n : Int) (h : 0 ≤ n ∧ n ≤ 18446744073709551615) : IntKind.u64.wrap n = n := by
  simp only [IntKind.wrap, IntKind.bits, IntKind.signed]
  simp
  omega
theorem wrap_u64' (n : Int) : IntKind.u64.wrap n = n % 18446744073709551616 := by
  simp [IntKind.wrap, IntKind.bits, IntKind.signed]
theorem Ev.add (hx : Look e x (.int .i64 a) := by repeat (first | exact Look.here | apply Look.there (hne := rfl) | exact Look.const | apply Look.mix rfl | exact Look.arg0 | apply Look.args | exact Look.func)) (hy : Look e y (.int .i64 b) := by repeat (first | exact Look.here | apply Look.there (hne := rfl) | exact Look.const | apply Look.mix rfl | exact Look.arg0 | apply Look.args | exact Look.func)) (h : -9223372036854775808 ≤ a + b ∧ a + b ≤ 9223372036854775807 := by omega) :
    Ev P w0 Cs H e (.binOp .add tx x y ty') ty (.int .i64 (a + b)) := by
  have := Ev.addW (P := P) (w0 := w0) (Cs := Cs) (H := H) (tx := tx) (ty' := ty') (ty := ty) hx hy
  rwa [wrap_i64 _ h] at this
theorem Ev.sub (hx : Look e x (.int .i64 a) := by repeat (first | exact Look.here | apply Look.there (hne := rfl) | exact Look.const | apply Look.mix rfl | exact Look.arg0 | apply Look.args | exact Look.func)) (hy : Look e y (.int .i64 b) := by repeat (first | exact Look.here | apply Look.there (hne := rfl) | exact Look.const | apply Look.mix rfl | exact Look.arg0 | apply Look.args | exact Look.func)) (h : -9223372036854775808 ≤ a - b ∧ a - b ≤ 9223372036854775807 := by omega) :
    Ev P w0 Cs H e (.binOp .sub tx x y ty') ty (.int .i64 (a - b)) := by
  have := Ev.subW (P := P) (w0 := w0) (Cs := Cs) (H := H) (tx := tx) (ty' := ty') (ty := ty) hx hy
  rwa [wrap_i64 _ h] at this
theorem Ev.mul (hx : Look e x (.int .i64 a) := by repeat (first | exact Look.here | apply Look.there (hne := rfl) | exact Look.const | apply Look.mix rfl | exact Look.arg0 | apply Look.args | exact Look.func)) (hy : Look e y (.int .i64 b) := by repeat (first | exact Look.here | apply Look.there (hne := rfl) | exact Look.const | apply Look.mix rfl | exact Look.arg0 | apply Look.args | exact Look.func)) (h : -9223372036854775808 ≤ a * b ∧ a * b ≤ 9223372036854775807 := by omega) :
    Ev P w0 Cs H e (.binOp .mul tx x y ty') ty (.int .i64 (a * b)) := by
  have := Ev.mulW (P := P) (w0 := w0) (Cs := Cs) (H := H) (tx := tx) (ty' := ty') (ty := ty) hx hy
  rwa [wrap_i64 _ h] at this
theorem Ev.inc {n : Nat} (hx : Look e x (.int .i64 (n : Int)) := by repeat (first | exact Look.here | apply Look.there (hne := rfl) | exact Look.const | apply Look.mix rfl | exact Look.arg0 | apply Look.args | exact Look.func)) (h : n + 1 ≤ 9223372036854775807 := by omega) :
    Ev P w0 Cs H e (.binOp .add tx x (.const (.int .i64 1)) ty') ty (.int .i64 ((n + 1 : Nat) : Int)) := by
  have := Ev.add (P := P) (w0 := w0) (Cs := Cs) (H := H) (tx := tx) (ty' := ty') (ty := ty) hx (Look.const (v := .int .i64 1)) (by omega)
  exact this
theorem Ev.addU (hx : Look e x (.int .u64 a) := by repeat (first | exact Look.here | apply Look.there (hne := rfl) | exact Look.const | apply Look.mix rfl | exact Look.arg0 | apply Look.args | exact Look.func)) (hy : Look e y (.int .u64 b) := by repeat (first | exact Look.here | apply Look.there (hne := rfl) | exact Look.const | apply Look.mix rfl | exact Look.arg0 | apply Look.args | exact Look.func)) :
    Ev P w0 Cs H e (.binOp .add tx x y ty') ty (.int .u64 ((a + b) % 18446744073709551616)) := by
  have := Ev.addW (P := P) (w0 := w0) (Cs := Cs) (H := H) (tx := tx) (ty' := ty') (ty := ty) hx hy
  rwa [wrap_u64'] at this
theorem Ev.subU (hx : Look e x (.int .u64 a) := by repeat (first | exact Look.here | apply Look.there (hne := rfl) | exact Look.const | apply Look.mix rfl | exact Look.arg0 | apply Look.args | exact Look.func)) (hy : Look e y (.int .u64 b) := by repeat (first | exact Look.here | apply Look.there (hne := rfl) | exact Look.const | apply Look.mix rfl | exact Look.arg0 | apply Look.args | exact Look.func)) :
    Ev P w0 Cs H e (.binOp .sub tx x y ty') ty (.int .u64 ((a - b) % 18446744073709551616)) := by
  have := Ev.subW (P := P) (w0 := w0) (Cs := Cs) (H := H) (tx := tx) (ty' := ty') (ty := ty) hx hy
  rwa [wrap_u64'] at this
theorem Ev.cmp {op : BinOp} {v : Bool} (hx : Look e x (.int k a) := by repeat (first | exact Look.here | apply Look.there (hne := rfl) | exact Look.const | apply Look.mix rfl | exact Look.arg0 | apply Look.args | exact Look.func)) (hy : Look e y (.int k b) := by repeat (first | exact Look.here | apply Look.there (hne := rfl) | exact Look.const | apply Look.mix rfl | exact Look.arg0 | apply Look.args | exact Look.func))
    (hop : op ∈ [BinOp.eql, .neq, .lss, .leq, .gtr, .geq]) (hv : ∀ w, (Op.intCmp op a b).run P w = .ok (.bool v) w) : Ev P w0 Cs H e (.binOp op tx x y ty') ty (.bool v) := by
  intro w _ d pos af g
  replace hx := hx.eq
  replace hy := hy.eq
  have h2 := hv w
  simp only [List.mem_cons, List.not_mem_nil, or_false] at hop
  rcases hop with rfl | rfl | rfl | rfl | rfl | rfl <;> simp [execOp, hx, hy, eqGuard_int, binOp, h2]
theorem Ev.lt (hx : Look e x (.int k a) := by repeat (first | exact Look.here | apply Look.there (hne := rfl) | exact Look.const | apply Look.mix rfl | exact Look.arg0 | apply Look.args | exact Look.func)) (hy : Look e y (.int k b) := by repeat (first | exact Look.here | apply Look.there (hne := rfl) | exact Look.const | apply Look.mix rfl | exact Look.arg0 | apply Look.args | exact Look.func)) : Ev P w0 Cs H e (.binOp .lss tx x y ty') ty (.bool (decide (a < b))) :=
  Ev.cmp hx hy (by simp) (fun w => by simp [Op.intCmp])
theorem Ev.le (hx : Look e x (.int k a) := by repeat (first | exact Look.here | apply Look.there (hne := rfl) | exact Look.const | apply Look.mix rfl | exact Look.arg0 | apply Look.args | exact Look.func)) (hy : Look e y (.int k b) := by repeat (first | exact Look.here | apply Look.there (hne := rfl) | exact Look.const | apply Look.mix rfl | exact Look.arg0 | apply Look.args | exact Look.func)) : Ev P w0 Cs H e (.binOp .leq tx x y ty') ty (.bool (decide (a ≤ b))) :=
  Ev.cmp hx hy (by simp) (fun w => by simp [Op.intCmp])
theorem Ev.gt (hx : Look e x (.int k a) := by repeat (first | exact Look.here | apply Look.there (hne := rfl) | exact Look.const | apply Look.mix rfl | exact Look.arg0 | apply Look.args | exact Look.func)) (hy : Look e y (.int k b) := by repeat (first | exact Look.here | apply Look.there (hne := rfl) | exact Look.const | apply Look.mix rfl | exact Look.arg0 | apply Look.args | exact Look.func)) : Ev P w0 Cs H e (.binOp .gtr tx x y ty') ty (.bool (decide (b < a))) :=
  Ev.cmp hx hy (by simp) (fun w => by simp [Op.intCmp])
theorem Ev.ge (hx : Look e x (.int k a) := by repeat (first | exact Look.here | apply Look.there (hne := rfl) | exact Look.const | apply Look.mix rfl | exact Look.arg0 | apply Look.args | exact Look.func)) (hy : Look e y (.int k b) := by repeat (first | exact Look.here | apply Look.there (hne := rfl) | exact Look.const | apply Look.mix rfl | exact Look.arg0 | apply Look.args | exact Look.func)) : Ev P w0 Cs H e (.binOp .geq tx x y ty') ty (.bool (decide (b ≤ a))) :=
  Ev.cmp hx hy (by simp) (fun w => by simp [Op.intCmp])
theorem Ev.eq (hx : Look e x (.int k a) := by repeat (first | exact Look.here | apply Look.there (hne := rfl) | exact Look.const | apply Look.mix rfl | exact Look.arg0 | apply Look.args | exact Look.func)) (hy : Look e y (.int k b) := by repeat (first | exact Look.here | apply Look.there (hne := rfl) | exact Look.const | apply Look.mix rfl | exact Look.arg0 | apply Look.args | exact Look.func)) : Ev P w0 Cs H e (.binOp .eql tx x y ty') ty (.bool (decide (a = b))) :=
  Ev.cmp hx hy (by simp) (fun w => by simp [Op.intCmp]; rfl)
theorem Ev.ne (hx : Look e x (.int k a) := by repeat (first | exact Look.here | apply Look.there (hne := rfl) | exact Look.const | apply Look.mix rfl | exact Look.arg0 | apply Look.args | exact Look.func)) (hy : Look e y (.int k b) := by repeat (first | exact Look.here | apply Look.there (hne := rfl) | exact Look.const | apply Look.mix rfl | exact Look.arg0 | apply Look.args | exact Look.func)) : Ev P w0 Cs H e (.binOp .neq tx x y ty') ty (.bool (decide (a ≠ b))) :=
  Ev.cmp hx hy (by simp) (fun w => by simp [Op.intCmp]; rfl)
end
end
end Go.Rx
/- The rule layer, fourth part: operations on memory, texts, slices. -/
namespace Go.Rx
open Go Go.RowKit
set_option linter.unusedVariables false
set_option linter.unusedSimpArgs false
section
variable {P : Program} {w0 : World} {Cs H : List Chunk} {e : Env} {ty tx ty' : TypeId} {x y : Operand} {k k' : IntKind} {a b : Int}
theorem Ev.not {p : Bool} (hx : Look e x (.bool p) := by repeat (first | exact Look.here | apply Look.there (hne := rfl) | exact Look.const | apply Look.mix rfl | exact Look.arg0 | apply Look.args | exact Look.func)) : Ev P w0 Cs H e (.unOp .not tx x) ty (.bool (!p)) := by
  intro w _ d pos af g
  replace hx := hx.eq
  simp [execOp, hx, Op.unary]
theorem eqGuard_bool (op : BinOp) (t : TypeId) (p q : Bool) (w : World) : (eqGuard op t x y (.bool p) (.bool q)).run P w = .ok () w := by
  unfold eqGuard
  cases op <;> simp
theorem equal_bool (t : TypeId) (ht : isBoolT P t = true) (p q : Bool) (w : World) : (Op.equal t (.bool p) (.bool q)).run P w = .ok (p == q) w := by
  have h : ∀ n, (Op.equalIn (n + 1) t (.bool p) (.bool q)).run P w = .ok (p == q) w := by
    intro n
    unfold Op.equalIn
    simp [run_underlying (isBoolT_und ht)]
  exact h 9999
theorem Ev.eqB {p q : Bool} (ht : isBoolT P tx = true) (hx : Look e x (.bool p) := by repeat (first | exact Look.here | apply Look.there (hne := rfl) | exact Look.const | apply Look.mix rfl | exact Look.arg0 | apply Look.args | exact Look.func)) (hy : Look e y (.bool q) := by repeat (first | exact Look.here | apply Look.there (hne := rfl) | exact Look.const | apply Look.mix rfl | exact Look.arg0 | apply Look.args | exact Look.func)) : Ev P w0 Cs H e (.binOp .eql tx x y ty') ty (.bool (p == q)) := by
  intro w _ d pos af g
  replace hx := hx.eq
  replace hy := hy.eq
  simp [execOp, hx, hy, eqGuard_bool, binOp, equal_bool tx ht]
theorem Ev.shlW (hx : Look e x (.int k a) := by repeat (first | exact Look.here | apply Look.there (hne := rfl) | exact Look.const | apply Look.mix rfl | exact Look.arg0 | apply Look.args | exact Look.func)) (hy : Look e y (.int k' b) := by repeat (first | exact Look.here | apply Look.there (hne := rfl) | exact Look.const | apply Look.mix rfl | exact Look.arg0 | apply Look.args | exact Look.func)) (hb : 0 ≤ b := by omega) : Ev P w0 Cs H e (.binOp .shl tx x y ty') ty (.int k (k.wrap (a * 2 ^ (min b.toNat k.bits)))) := by
  intro w _ d pos af g
  replace hx := hx.eq
  replace hy := hy.eq
  have hn : ¬ b < 0 := by omega
  have hg : (eqGuard .shl tx x y (.int k a) (.int k' b)).run P w = .ok () w := by unfold eqGuard; simp
  simp [execOp, hx, hy, hg, binOp, Op.shift, hn]
theorem Ev.bits {op : BinOp} (f : BitVec k.bits → BitVec k.bits → BitVec k.bits) (hop : (op = .and ∧ f = (· &&& ·)) ∨ (op = .or ∧ f = (· ||| ·)) ∨ (op = .xor ∧ f = (· ^^^ ·)) ∨ (op = .andNot ∧ f = fun a b => a &&& ~~~b))
    (hx : Look e x (.int k a) := by repeat (first | exact Look.here | apply Look.there (hne := rfl) | exact Look.const | apply Look.mix rfl | exact Look.arg0 | apply Look.args | exact Look.func)) (hy : Look e y (.int k b) := by repeat (first | exact Look.here | apply Look.there (hne := rfl) | exact Look.const | apply Look.mix rfl | exact Look.arg0 | apply Look.args | exact Look.func)) : Ev P w0 Cs H e (.binOp op tx x y ty') ty (.int k (k.wrap (f (BitVec.ofInt k.bits a) (BitVec.ofInt k.bits b)).toNat)) := by
  intro w _ d pos af g
  replace hx := hx.eq
  replace hy := hy.eq
  rcases hop with ⟨rfl, rfl⟩ | ⟨rfl, rfl⟩ | ⟨rfl, rfl⟩ | ⟨rfl, rfl⟩ <;> simp [execOp, hx, hy, eqGuard_int, binOp, Op.intBits]

/-! ### parts of values -/
theorem Ev.extract {i : Nat} {vs : List Value} {v : Value} (hx : Look e x (.tuple vs.toArray) := by repeat (first | exact Look.here | apply Look.there (hne := rfl) | exact Look.const | apply Look.mix rfl | exact Look.arg0 | apply Look.args | exact Look.func)) (hv : vs[i]? = some v := by rfl) : Ev P w0 Cs H e (.extract x i) ty v := by
  intro w _ d pos af g
  replace hx := hx.eq
  simp [execOp, hx, Instr.extract, hv]
theorem run_part_sc {t : TypeId} (h : isSc P t = true) {cs : List Value} {off : Nat} {v : Value} (hv : cs[off]? = some v) (w : World) : (Go.part t cs.toArray off).run P w = .ok v w := by
  simp [Go.part, isSc_run h, hv]
theorem run_part_ag {t : TypeId} {n : Nat} (h : isAg P t n = true) {cs : List Value} {off : Nat} (w : World) : (Go.part t cs.toArray off).run P w = .ok (.agg ((cs.drop off).take n).toArray) w := by
  have := isAg_run h w
  simp [Go.part, this.1, this.2]
def bAt (s : ByteArray) (k : Nat) : Int := ((s.data.toList[k]?.getD 0).toNat : Int)
theorem byteArray_beq (s t : ByteArray) : (s.toList == t.toList) = decide (s = t) := by
  have hl : ∀ s : ByteArray, s.toList = s.data.toList := by
    intro s
    exact ByteArray.toList_eq s
  rw [hl, hl]
  have h : s.data.toList = t.data.toList ↔ s = t := by
    constructor
    · intro h
      cases s; cases t
      simp only [ByteArray.mk.injEq]
      exact Array.toList_inj.1 h
    · rintro rfl; rfl
  by_cases he : s = t
  · simp [he]
  · have : ¬ s.data.toList = t.data.toList := fun h' => he (h.1 h')
    rw [decide_eq_false he]
    exact beq_eq_false_iff_ne.2 this
def RAt {α : Type} [Inhabited α] (w0 : World) (Cs H : List Chunk) (enc : α → List Value) (sz : Nat) (v : Value) (xs : List α) : Prop := ∀ w, Upd w0 w Cs H → ∃ Cs', RSl enc sz w Cs' v xs
theorem RSl.r {α : Type} [Inhabited α] {enc : α → List Value} {sz : Nat} {v : Value} {xs : List α} (h : RSl enc sz w0 Cs v xs) : RAt w0 Cs H enc sz v xs := fun w hw => ⟨_, h.at_ hw⟩
/-! ### addresses, and what is read at them -/
theorem Ev.fa {s ft : TypeId} {f off n : Nat} {ad : Addr} (hf : fldOf P s f off ft n = true) (hx : Look e x (.pointer (some ad)) := by repeat (first | exact Look.here | apply Look.there (hne := rfl) | exact Look.const | apply Look.mix rfl | exact Look.arg0 | apply Look.args | exact Look.func)) : Ev P w0 Cs H e (.fieldAddr s x f) ty (.pointer (some (ad.add off))) := by
  intro w _ d pos af g
  replace hx := hx.eq
  simp [execOp, hx, fldOf_run hf]
theorem Ev.faB {s ft : TypeId} {f off o n bk : Nat} (hf : fldOf P s f off ft n = true) (hx : Look e x (.pointer (some ⟨bk, o, none⟩)) := by repeat (first | exact Look.here | apply Look.there (hne := rfl) | exact Look.const | apply Look.mix rfl | exact Look.arg0 | apply Look.args | exact Look.func)) : Ev P w0 Cs H e (.fieldAddr s x f) ty (.pointer (some ⟨bk, o + off, none⟩)) := by
  have := Ev.fa (w0 := w0) (Cs := Cs) (H := H) (ty := ty) hf hx
  have h2 : (⟨bk, o, none⟩ : Addr).add off = ⟨bk, o + off, none⟩ := by unfold Addr.add; split <;> simp_all
  rwa [h2] at this
theorem Ev.iaSl {α : Type} [Inhabited α] {enc : α → List Value} {s el : TypeId} {sz : Nat} {v : Value} {xs : List α} {i : Int} (hs : slcOf P s el sz = true) (hx : Look e x v := by repeat (first | exact Look.here | apply Look.there (hne := rfl) | exact Look.const | apply Look.mix rfl | exact Look.arg0 | apply Look.args | exact Look.func)) (hy : Look e y (.int k i) := by repeat (first | exact Look.here | apply Look.there (hne := rfl) | exact Look.const | apply Look.mix rfl | exact Look.arg0 | apply Look.args | exact Look.func)) (hr : RAt w0 Cs H enc sz v xs)
    (hi : 0 ≤ i ∧ i < xs.length := by omega) : Ev P w0 Cs H e (.indexAddr s x y) ty (.pointer (some ((sbase v).add (i.toNat * sz)))) := by
  intro w hw d pos af g
  replace hx := hx.eq
  replace hy := hy.eq
  obtain ⟨Cs', hr⟩ := hr w hw
  obtain ⟨A, c, rfl, hc, hA⟩ := hr.shape
  obtain ⟨h1, h2⟩ := slcOf_und hs
  cases A with
  | none =>
    have := hA rfl
    subst this
    simp at hi
    omega
  | some ad => simp [execOp, hx, hy, Instr.indexAt, asIntOf, run_underlying h1, hi, szOf_run h2, sbase]
theorem Ev.iaN {α : Type} [Inhabited α] {enc : α → List Value} {s el : TypeId} {sz : Nat} {v : Value} {xs : List α} {i : Nat} (hs : slcOf P s el sz = true) (hx : Look e x v := by repeat (first | exact Look.here | apply Look.there (hne := rfl) | exact Look.const | apply Look.mix rfl | exact Look.arg0 | apply Look.args | exact Look.func)) (hy : Look e y (.int k (i : Int)) := by repeat (first | exact Look.here | apply Look.there (hne := rfl) | exact Look.const | apply Look.mix rfl | exact Look.arg0 | apply Look.args | exact Look.func)) (hr : RAt w0 Cs H enc sz v xs)
    (hi : i < xs.length := by omega) : Ev P w0 Cs H e (.indexAddr s x y) ty (.pointer (some ((sbase v).add (i * sz)))) := by
  have := Ev.iaSl (w0 := w0) (Cs := Cs) (H := H) (ty := ty) hs hx hy hr (by omega)
  rwa [Int.toNat_natCast] at this
theorem Ev.iaArr {s el : TypeId} {len sz : Nat} {ad : Addr} {i : Int} (hs : arrOf P s len el sz = true) (hx : Look e x (.pointer (some ad)) := by repeat (first | exact Look.here | apply Look.there (hne := rfl) | exact Look.const | apply Look.mix rfl | exact Look.arg0 | apply Look.args | exact Look.func)) (hy : Look e y (.int k i) := by repeat (first | exact Look.here | apply Look.there (hne := rfl) | exact Look.const | apply Look.mix rfl | exact Look.arg0 | apply Look.args | exact Look.func))
    (hi : 0 ≤ i ∧ i < len := by omega) : Ev P w0 Cs H e (.indexAddr s x y) ty (.pointer (some (ad.add (i.toNat * sz)))) := by
  intro w hw d pos af g
  replace hx := hx.eq
  replace hy := hy.eq
  obtain ⟨h1, h2⟩ := arrOf_und hs
  simp [execOp, hx, hy, Instr.indexAt, asIntOf, run_underlying h1, hi, szOf_run h2, Instr.sureAddr]
theorem Ev.iaArrB {s el : TypeId} {len sz bk o : Nat} {i : Int} (hs : arrOf P s len el sz = true) (hx : Look e x (.pointer (some ⟨bk, o, none⟩)) := by repeat (first | exact Look.here | apply Look.there (hne := rfl) | exact Look.const | apply Look.mix rfl | exact Look.arg0 | apply Look.args | exact Look.func)) (hy : Look e y (.int k i) := by repeat (first | exact Look.here | apply Look.there (hne := rfl) | exact Look.const | apply Look.mix rfl | exact Look.arg0 | apply Look.args | exact Look.func))
    (hi : 0 ≤ i ∧ i < len := by omega) : Ev P w0 Cs H e (.indexAddr s x y) ty (.pointer (some ⟨bk, o + i.toNat * sz, none⟩)) := by
  have := Ev.iaArr (w0 := w0) (Cs := Cs) (H := H) (ty := ty) hs hx hy hi
  have h2 : ∀ off, (⟨bk, o, none⟩ : Addr).add off = ⟨bk, o + off, none⟩ := by intro off; unfold Addr.add; split <;> simp_all
  rwa [h2] at this
theorem Ev.iaArrN {s el : TypeId} {len sz bk o : Nat} {i : Nat} (hs : arrOf P s len el sz = true) (hx : Look e x (.pointer (some ⟨bk, o, none⟩)) := by repeat (first | exact Look.here | apply Look.there (hne := rfl) | exact Look.const | apply Look.mix rfl | exact Look.arg0 | apply Look.args | exact Look.func)) (hy : Look e y (.int k (i : Int)) := by repeat (first | exact Look.here | apply Look.there (hne := rfl) | exact Look.const | apply Look.mix rfl | exact Look.arg0 | apply Look.args | exact Look.func))
    (hi : i < len := by omega) : Ev P w0 Cs H e (.indexAddr s x y) ty (.pointer (some ⟨bk, o + i * sz, none⟩)) := by
  have := Ev.iaArrB (w0 := w0) (Cs := Cs) (H := H) (ty := ty) hs hx hy (by omega)
  rwa [Int.toNat_natCast] at this
def Cells (w0 : World) (Cs H : List Chunk) (ad : Addr) (cs : List Value) : Prop := ∀ w, Upd w0 w Cs H → ∀ j u, cs[j]? = some u → w.cell? (ad.add j) = some u
theorem Ev.ldS {t : TypeId} {ad : Addr} {v : Value} (ht : isSc P t = true) (hc : Cells w0 Cs H ad [v]) (hx : Look e x (.pointer (some ad)) := by repeat (first | exact Look.here | apply Look.there (hne := rfl) | exact Look.const | apply Look.mix rfl | exact Look.arg0 | apply Look.args | exact Look.func)) : Ev P w0 Cs H e (.load t x) ty v := by
  intro w hw d pos af g
  replace hx := hx.eq
  have h := hc w hw 0 v rfl
  rw [Addr.add_zero] at h
  simp [execOp, hx, Instr.loadAt, Instr.sureAddr, loadVar, isSc_run ht, h]
theorem Ev.ldA {t : TypeId} {ad : Addr} {n : Nat} {cs : List Value} (ht : isAg P t n = true) (hc : Cells w0 Cs H ad cs) (hn : cs.length = n := by rfl) (hx : Look e x (.pointer (some ad)) := by repeat (first | exact Look.here | apply Look.there (hne := rfl) | exact Look.const | apply Look.mix rfl | exact Look.arg0 | apply Look.args | exact Look.func)) : Ev P w0 Cs H e (.load t x) ty (.agg cs.toArray) := by
  intro w hw d pos af g
  replace hx := hx.eq
  have h := run_loadCells_list (P := P) (w := w) ad cs (hc w hw)
  obtain ⟨h1, h2⟩ := isAg_run ht w
  simp [execOp, hx, Instr.loadAt, Instr.sureAddr, loadVar, h1, h2, ← hn, h]
theorem Cells.boxed {bk off i : Nat} {t : TypeId} {cs ds : List Value} (hH : At H i (.box bk t cs)) (hd : ∀ j u, ds[j]? = some u → cs[off + j]? = some u) : Cells w0 Cs H ⟨bk, off, none⟩ ds := by
  intro w hw j u hu
  have hb : w.heap[bk]? = some (.cells cs.toArray t (0, 0)) := hH.ok hw
  have h2 : (⟨bk, off, none⟩ : Addr).add j = ⟨bk, off + j, none⟩ := by unfold Addr.add; split <;> simp_all
  rw [h2, cell_of_row w bk (off + j) cs.toArray t (0, 0) hb]
  simpa using hd j u hu
theorem Ev.ldB {t tb : TypeId} {bk off i : Nat} {cs : List Value} {v : Value} (ht : isSc P t = true) (hx : Look e x (.pointer (some ⟨bk, off, none⟩)) := by repeat (first | exact Look.here | apply Look.there (hne := rfl) | exact Look.const | apply Look.mix rfl | exact Look.arg0 | apply Look.args | exact Look.func)) (hH : At H i (.box bk tb cs) := by repeat (first | exact At.z | apply At.s)) (hv : cs[off]? = some v := by rfl) : Ev P w0 Cs H e (.load t x) ty v :=
  Ev.ldS ht (Cells.boxed hH (fun j u hu => by cases j with | zero => simp at hu; subst hu; simpa using hv | succ j => simp at hu)) hx
theorem Ev.ldBA {t tb : TypeId} {bk i n : Nat} {cs : List Value} (ht : isAg P t n = true) (hx : Look e x (.pointer (some ⟨bk, 0, none⟩)) := by repeat (first | exact Look.here | apply Look.there (hne := rfl) | exact Look.const | apply Look.mix rfl | exact Look.arg0 | apply Look.args | exact Look.func)) (hH : At H i (.box bk tb cs) := by repeat (first | exact At.z | apply At.s)) (hn : cs.length = n := by rfl) : Ev P w0 Cs H e (.load t x) ty (.agg cs.toArray) :=
  Ev.ldA ht (Cells.boxed hH (fun j u hu => by simpa using hu)) hn hx
theorem Ev.ldBP {t tb : TypeId} {bk off i n : Nat} {cs : List Value} (ht : isAg P t n = true) (hx : Look e x (.pointer (some ⟨bk, off, none⟩)) := by repeat (first | exact Look.here | apply Look.there (hne := rfl) | exact Look.const | apply Look.mix rfl | exact Look.arg0 | apply Look.args | exact Look.func)) (hH : At H i (.box bk tb cs) := by repeat (first | exact At.z | apply At.s)) (hn : ((cs.drop off).take n).length = n := by rfl) : Ev P w0 Cs H e (.load t x) ty (.agg ((cs.drop off).take n).toArray) :=
  Ev.ldA ht (Cells.boxed hH (fun j u hu => by
    rw [List.getElem?_take] at hu
    split at hu
    · simpa using hu
    · cases hu)) hn hx
theorem RAt.cells {α : Type} [Inhabited α] {enc : α → List Value} {sz : Nat} {v : Value} {xs : List α} (hr : RAt w0 Cs H enc sz v xs) {i : Nat} (hi : i < xs.length) {off : Nat} {ds : List Value} (hd : ∀ j u, ds[j]? = some u → (enc xs[i]!)[off + j]? = some u) : Cells w0 Cs H (((sbase v).add (i * sz)).add off) ds := by
  intro w hw j u hu
  obtain ⟨Cs', hr⟩ := hr w hw
  have := (hr.cell i hi (off + j) u (hd j u hu)).1
  rw [Addr.add_add, Addr.add_add]
  first | exact this | (rw [Nat.add_assoc]; exact this)
theorem Ev.ldE {α : Type} [Inhabited α] {enc : α → List Value} {sz : Nat} {s : Value} {xs : List α} {t : TypeId} {i off : Nat} {v : Value} (ht : isSc P t = true) (hx : Look e x (.pointer (some (((sbase s).add (i * sz)).add off))) := by repeat (first | exact Look.here | apply Look.there (hne := rfl) | exact Look.const | apply Look.mix rfl | exact Look.arg0 | apply Look.args | exact Look.func)) (hr : RAt w0 Cs H enc sz s xs)
    (hi : i < xs.length := by omega) (hv : (enc xs[i]!)[off]? = some v := by rfl) : Ev P w0 Cs H e (.load t x) ty v :=
  Ev.ldS ht (hr.cells hi (fun j u hu => by cases j with | zero => simp at hu; subst hu; simpa using hv | succ j => simp at hu)) hx
theorem Ev.ldE1 {α : Type} [Inhabited α] {enc : α → List Value} {sz : Nat} {s : Value} {xs : List α} {t : TypeId} {i : Nat} {v : Value} (ht : isSc P t = true) (hx : Look e x (.pointer (some ((sbase s).add (i * sz)))) := by repeat (first | exact Look.here | apply Look.there (hne := rfl) | exact Look.const | apply Look.mix rfl | exact Look.arg0 | apply Look.args | exact Look.func)) (hr : RAt w0 Cs H enc sz s xs)
    (hi : i < xs.length := by omega) (hv : (enc xs[i]!)[0]? = some v := by rfl) : Ev P w0 Cs H e (.load t x) ty v :=
  Ev.ldE ht (by rw [Addr.add_zero]; exact hx) hr hi hv
theorem Ev.ldEA {α : Type} [Inhabited α] {enc : α → List Value} {sz : Nat} {s : Value} {xs : List α} {t : TypeId} {i : Nat} (ht : isAg P t sz = true) (hx : Look e x (.pointer (some ((sbase s).add (i * sz)))) := by repeat (first | exact Look.here | apply Look.there (hne := rfl) | exact Look.const | apply Look.mix rfl | exact Look.arg0 | apply Look.args | exact Look.func)) (hr : RAt w0 Cs H enc sz s xs)
    (hi : i < xs.length := by omega) : Ev P w0 Cs H e (.load t x) ty (.agg (enc xs[i]!).toArray) := by
  have hc : Cells w0 Cs H (((sbase s).add (i * sz)).add 0) (enc xs[i]!) := hr.cells hi (fun j u hu => by simpa using hu)
  rw [Addr.add_zero] at hc
  intro w hw
  obtain ⟨Cs', hr'⟩ := hr w hw
  have : xs[i]! ∈ xs := by rw [getElem!_pos xs i hi]; exact List.getElem_mem hi
  exact Ev.ldA ht hc (hr'.size _ this) hx w hw
theorem Ev.lenSl {α : Type} [Inhabited α] {enc : α → List Value} {sz m : Nat} {s : Value} {xs : List α} {t el : TypeId} (ht : slcOf P t el m = true) (hx : Look e x s := by repeat (first | exact Look.here | apply Look.there (hne := rfl) | exact Look.const | apply Look.mix rfl | exact Look.arg0 | apply Look.args | exact Look.func)) (hr : RAt w0 Cs H enc sz s xs) : Ev P w0 Cs H e (.call ⟨.builtin .len, #[x], #[t]⟩) ty (.int .i64 (xs.length : Int)) := by
  intro w hw d pos af g
  replace hx := hx.eq
  obtain ⟨Cs', hr⟩ := hr w hw
  obtain ⟨A, c, rfl, hc, hA⟩ := hr.shape
  simp [execOp, resolve, invoke, builtin, hx, Builtin.len_, run_underlying (slcOf_und ht).1, goInt]
theorem Ev.func {fn : Fn} {l m : List Operand} : Ev P w0 Cs H e (.makeFunc fn l.toArray m.toArray) ty (.func fn (l.map (ev e)).toArray (m.map (ev e)).toArray) := by
  intro w _ d pos af g
  simp [execOp, Instr.makeFunc]
end
end Go.Rx
/- The rule layer, fifth part: operations that make or write memory. -/
namespace Go.Rx
open Go Go.RowKit
set_option linter.unusedVariables false
set_option linter.unusedSimpArgs false

/-! ### steps of the world -/
theorem Upd.alloc {w0 w : World} {Cs H : List Chunk} (h : Upd w0 w Cs H) (o : Obj) : Upd w0 (w.alloc o) Cs (.blk w.heap.size o :: H) := by
  have h2 : Upd w (w.alloc o) [] [.blk w.heap.size o] := by
    refine ⟨rfl, rfl, rfl, by simp, fun i hi _ => Below.heap_alloc w o i hi, ⟨?_, List.pairwise_singleton _ _⟩, ?_⟩
    · intro c hc
      simp at hc
      subst hc
      exact heap_alloc_new w o
    · intro c hc i hi
      simp at hc
      subst hc
      exact .inr (Nat.le_of_eq hi.symm)
  exact Upd.step (Gs := []) (H' := [_]) h h2
theorem Upd.blk {w w' : World} {b : Nat} {o o' : Obj} (ho : w.heap[b]? = some o) (h1 : w'.os = w.os) (h2 : w'.tape = w.tape) (h3 : w'.output = w.output) (hs : w.heap.size ≤ w'.heap.size) (hb : w'.heap[b]? = some o') (hn : ∀ i, i ≠ b → i < w.heap.size → w'.heap[i]? = w.heap[i]?) :
    Upd w w' [.blk b o] [.blk b o'] := by
  refine ⟨h1, h2, h3, hs, fun i hi hne => hn i (fun h => hne (.blk b o) (by simp) h) hi, ⟨?_, List.pairwise_singleton _ _⟩, ?_⟩
  · intro c hc
    simp at hc
    subst hc
    exact hb
  · intro c hc i hi
    simp at hc
    subst hc
    exact .inl ⟨.blk b o, by simp, hi⟩
theorem Upd.at_ {w0 w w' : World} {Cs H : List Chunk} {i : Nat} {c c' : Chunk} (h : Upd w0 w Cs H) (hi : At H i c) (k : Upd w w' [c] [c']) : Upd w0 w' Cs (H.set i c') := by
  have h2 : Upd w0 w Cs ([c] ++ H.eraseIdx i) := h.perm (At.perm hi).symm
  exact (Upd.step h2 k).perm (At.set hi c')
theorem Upd.row {w : World} {b : Nat} {cur cs : List Value} {t : TypeId} (ho : w.heap[b]? = some (.cells cur.toArray t (0, 0))) : Upd w (w.setRow b cs.toArray) [.box b t cur] [.box b t cs] :=
  Upd.blk ho rfl rfl rfl (by simp) (setRow_heap w b _ _ _ _ ho) (fun i hi _ => setRow_other w b i _ hi)
theorem Upd.grown {w w' : World} {e size n n' : Nat} {v v' : Value} {xs xs' : List Value} (hg : w.grownBy w' v.ownBlock) (ho : OwnR w' e size v' n' xs') (hv : ∀ k, v'.ownBlock = some k → v.ownBlock = some k ∨ w.heap.size ≤ k) :
    Upd w w' [.own e size v n xs] [.own e size v' n' xs'] := by
  refine ⟨hg.os, hg.tape, hg.output, hg.size, fun i hi hne => hg.block i hi (fun h => hne (.own e size v n xs) (by simp) h.symm), ⟨?_, List.pairwise_singleton _ _⟩, ?_⟩
  · intro c hc
    simp at hc
    subst hc
    exact ho
  · intro c hc i hi
    simp at hc
    subst hc
    rcases hv i hi with h | h
    · exact .inl ⟨.own e size v n xs, by simp, h⟩
    · exact .inr h
theorem Upd.nilOwn {w0 w : World} {Cs H : List Chunk} (h : Upd w0 w Cs H) (e : TypeId) (size : Nat) : Upd w0 w Cs (.own e size (.slice none 0 0) 0 [] :: H) := by
  refine ⟨h.os, h.tape, h.output, h.size, h.keep, ⟨?_, ?_⟩, ?_⟩
  · intro c hc
    rcases List.mem_cons.1 hc with rfl | hc
    · exact OwnR.nil w e size
    · exact h.own.ok c hc
  · refine List.pairwise_cons.2 ⟨?_, h.own.sep⟩
    intro a _ i hi
    simp [Chunk.fp, Value.ownBlock] at hi
  · intro c hc i hi
    rcases List.mem_cons.1 hc with rfl | hc
    · simp [Chunk.fp, Value.ownBlock] at hi
    · exact h.fresh c hc i hi
theorem Upd.boxOwn {w0 w : World} {Cs H : List Chunk} {i b n size : Nat} {t : TypeId} {cs : List Value} (h : Upd w0 w Cs H) (hi : At H i (.box b t cs)) (hl : cs.length = n * size) (hn : n ≤ 4611686018427387904) : Upd w0 w Cs (H.set i (.own t size (.slice (some ⟨b, 0, none⟩) n n) n cs)) := by
  refine h.at_ hi ?_
  have ho : w.heap[b]? = some (.cells cs.toArray t (0, 0)) := hi.ok h
  refine ⟨rfl, rfl, rfl, Nat.le_refl _, fun _ _ _ => rfl, ⟨?_, List.pairwise_singleton _ _⟩, ?_⟩
  · intro c hc
    simp at hc
    subst hc
    refine ⟨hl, .inr ⟨b, 0, n, cs.toArray, (0, 0), rfl, ho, Nat.le_refl _, by simp only [maxLen]; omega, by simp [hl], by intro j _ _ h; simp at h, ?_⟩⟩
    simp [← hl]
  · intro c hc j hj
    simp at hc
    subst hc
    simp [Chunk.fp, Value.ownBlock] at hj
    exact .inl ⟨.box b t cs, by simp, hj.symm⟩

section
variable {P : Program} {n : Nat} {ops : Array Oper} {w0 : World} {Cs H : List Chunk} {e : Env} {K : Env → List Chunk → Prop} {rest : List Oper} {t : Nat} {ty : TypeId} {pos : String} {af : Array Edge} {x y : Operand} {Q : Exit → Env → List Chunk → Prop}
theorem Seq.re {l : List Oper} {H' : List Chunk} (h : ∀ w, Upd w0 w Cs H → Upd w0 w Cs H') (k : Seq P n ops w0 Cs l H' e K) : Seq P n ops w0 Cs l H e K := fun a w hf hw => k a w hf (h w hw)
theorem JC.re {c : Code} {H' : List Chunk} (h : ∀ w, Upd w0 w Cs H → Upd w0 w Cs H') (k : JC P n w0 Cs c H' e Q) : JC P n w0 Cs c H e Q := fun a w hf hw => k a w hf (h w hw)

theorem run_newVar (P : Program) (t : TypeId) (v : Value) (w : World) : (newVar t v).run P w = .ok ⟨w.heap.size, 0, none⟩ (w.alloc (.cells v.cells t)) := by
  rfl
def cellsL : Value → List Value
  | .agg cs => cs.toList
  | v => [v]
theorem cellsL_eq (v : Value) : v.cells = (cellsL v).toArray := by cases v <;> rfl
theorem Seq.box {el : TypeId} {v : Value} {cs : List Value} (ht : Nat.blt t n = true := by rfl) (hx : Look e x v := by repeat (first | exact Look.here | apply Look.there (hne := rfl) | exact Look.const | apply Look.mix rfl | exact Look.arg0 | apply Look.args | exact Look.func)) (hcs : cellsL v = cs := by rfl)
    (k : ∀ b, Seq P n ops w0 Cs rest (.box b el cs :: H) (upd e t (.pointer (some ⟨b, 0, none⟩))) K) :
    Seq P n ops w0 Cs (⟨some t, .box el x, ty, pos, af, none⟩ :: rest) H e K := by
  refine Seq.f ht (R := fun v H' => ∃ b, v = .pointer (some ⟨b, 0, none⟩) ∧ H' = .box b el cs :: H) ?_ ?_
  · intro w hw d pos af g
    refine ⟨_, _, _, .inl ?_, Upd.alloc hw (.cells cs.toArray el), _, rfl, rfl⟩
    replace hx := hx.eq
    simp [execOp, hx, Instr.box, run_newVar, cellsL_eq, hcs]
  · rintro v H' ⟨b, rfl, rfl⟩
    exact k b
def zeroOf (P : Program) (t : TypeId) : Option Value := (P.info? t).bind (·.zero)
theorem Seq.alloc {el : TypeId} {v : Value} {cs : List Value} (ht : Nat.blt t n = true := by rfl) (hz : zeroOf P el = some v) (hcs : cellsL v = cs := by rfl)
    (k : ∀ b, Seq P n ops w0 Cs rest (.box b el cs :: H) (upd e t (.pointer (some ⟨b, 0, none⟩))) K) :
    Seq P n ops w0 Cs (⟨some t, .alloc el, ty, pos, af, none⟩ :: rest) H e K := by
  refine Seq.f ht (R := fun v H' => ∃ b, v = .pointer (some ⟨b, 0, none⟩) ∧ H' = .box b el cs :: H) ?_ ?_
  · intro w hw d pos af g
    refine ⟨_, _, _, .inl ?_, Upd.alloc hw (.cells cs.toArray el), _, rfl, rfl⟩
    unfold zeroOf at hz
    cases hi : P.info? el with
    | none => simp [hi] at hz
    | some i =>
      simp [hi] at hz
      simp [execOp, Instr.alloc, zeroValue, typeInfo, hi, hz, run_newVar, cellsL_eq, hcs]
  · rintro v H' ⟨b, rfl, rfl⟩
    exact k b
theorem run_storeBox {b off : Nat} {tb el : TypeId} {cs : List Value} {v : Value} {vs : List Value} {m : Nat} {w : World} (hsz : szOf P el m = true) (hvs : cellsL v = vs) (hm : vs.length = m) (h1 : ∀ u ∈ vs, u.oneCell' = true) (hfit : off + vs.length ≤ cs.length)
    (hb : w.heap[b]? = some (.cells cs.toArray tb (0, 0))) : (Instr.storeAt el (.pointer (some ⟨b, off, none⟩)) v).run P w = .ok () (w.setRow b (cs.take off ++ vs ++ cs.drop (off + vs.length)).toArray) := by
  have hst := run_storeCells_at P b off tb vs 0 cs.toArray w hb (by simpa using hfit) h1
  simp only [Nat.add_zero] at hst
  simp [Instr.storeAt, Instr.sureAddr, storeVar, cellsL_eq, hvs, szOf_run hsz, hm, hst]
theorem Seq.store {el tb : TypeId} {b off i m : Nat} {cs vs : List Value} {v : Value} (hsz : szOf P el m = true) (hx : Look e x (.pointer (some ⟨b, off, none⟩)) := by repeat (first | exact Look.here | apply Look.there (hne := rfl) | exact Look.const | apply Look.mix rfl | exact Look.arg0 | apply Look.args | exact Look.func)) (hy : Look e y v := by repeat (first | exact Look.here | apply Look.there (hne := rfl) | exact Look.const | apply Look.mix rfl | exact Look.arg0 | apply Look.args | exact Look.func)) (hvs : cellsL v = vs := by rfl) (hm : vs.length = m := by rfl)
    (h1 : (vs.all fun u => u.oneCell') = true := by rfl)
    (hH : At H i (.box b tb cs) := by repeat (first | exact At.z | apply At.s)) (hfit : Nat.ble (off + vs.length) cs.length = true := by rfl)
    (k : Seq P n ops w0 Cs rest (H.set i (.box b tb (cs.take off ++ vs ++ cs.drop (off + vs.length)))) e K) :
    Seq P n ops w0 Cs (⟨none, .store el x y, ty, pos, af, none⟩ :: rest) H e K := by
  refine Seq.f0 (R := fun v H' => H' = H.set i (.box b tb (cs.take off ++ vs ++ cs.drop (off + vs.length)))) ?_ ?_
  · intro w hw d pos af g
    have hb : w.heap[b]? = some (.cells cs.toArray tb (0, 0)) := hH.ok hw
    replace hx := hx.eq
    replace hy := hy.eq
    refine ⟨undef, _, _, .inr ⟨?_, rfl⟩, Upd.at_ hw hH (Upd.row hb), rfl⟩
    simp [execOp, hx, hy, run_storeBox hsz hvs hm (List.all_eq_true.1 h1) (by simpa using hfit) hb]
  · rintro v H' rfl
    exact k
theorem Seq.storeTo {el tb : TypeId} {b off i m : Nat} {cs vs cs' : List Value} {v : Value} (hsz : szOf P el m = true) (hx : Look e x (.pointer (some ⟨b, off, none⟩)) := by repeat (first | exact Look.here | apply Look.there (hne := rfl) | exact Look.const | apply Look.mix rfl | exact Look.arg0 | apply Look.args | exact Look.func)) (hy : Look e y v := by repeat (first | exact Look.here | apply Look.there (hne := rfl) | exact Look.const | apply Look.mix rfl | exact Look.arg0 | apply Look.args | exact Look.func)) (hvs : cellsL v = vs := by rfl) (hm : vs.length = m := by rfl)
    (h1 : (vs.all fun u => u.oneCell') = true := by rfl) (hH : At H i (.box b tb cs) := by repeat (first | exact At.z | apply At.s)) (hfit : off + vs.length ≤ cs.length) (hcs : cs.take off ++ vs ++ cs.drop (off + vs.length) = cs')
    (k : Seq P n ops w0 Cs rest (H.set i (.box b tb cs')) e K) :
    Seq P n ops w0 Cs (⟨none, .store el x y, ty, pos, af, none⟩ :: rest) H e K := by
  subst hcs
  exact Seq.store hsz hx hy hvs hm h1 hH (by simpa using hfit) k
end

/-! ### slices of the call's own -/
def elOf (P : Program) (el : TypeId) (size bytes : Nat) : Bool := match P.info? el with | some i => i.size == size && i.bytes == bytes && decide (0 < size) && (match i.zero with | some z => z.cells.size == size | none => false) | none => false
theorem elOf_parts {P : Program} {el : TypeId} {size bytes : Nat} (h : elOf P el size bytes = true) : ∃ i z, P.info? el = some i ∧ i.size = size ∧ i.bytes = bytes ∧ 0 < size ∧ i.zero = some z ∧ z.cells.size = size := by
  unfold elOf at h
  split at h
  · rename_i i hi
    simp only [Bool.and_eq_true, beq_iff_eq, decide_eq_true_eq] at h
    obtain ⟨⟨⟨h1, h2⟩, h3⟩, h4⟩ := h
    split at h4
    · rename_i z hz
      exact ⟨i, z, hi, h1, h2, h3, hz, by simpa using h4⟩
    · cases h4
  · cases h
theorem run_storeCells_fr {P : Program} (g o : Nat) (t : TypeId) (fr : Nat × Nat) : ∀ (vs : List Value) (i : Nat) (cur : Array Value) (w : World), w.heap[g]? = some (.cells cur t fr) → o + i + vs.length ≤ cur.size → (∀ j, o + i ≤ j → j < o + i + vs.length → ¬ (fr.1 ≤ j ∧ j < fr.2)) → (∀ v ∈ vs, v.oneCell' = true) →
    (storeCells ⟨g, o, none⟩ vs i).run P w = .ok () (w.setRow g (cur.toList.take (o + i) ++ vs ++ cur.toList.drop (o + i + vs.length)).toArray)
  | [], i, cur, w, hg, _, _, _ => by
    simp only [storeCells, List.append_nil, List.length_nil, Nat.add_zero, List.take_append_drop, Array.toArray_toList]
    rw [setRow_self w g cur t fr hg]
    rfl
  | v :: rest, i, cur, w, hg, hl, hfr, h1 => by
    have hi : o + i < cur.size := by simp at hl; omega
    have hadd : (⟨g, o, none⟩ : Addr).add i = ⟨g, o + i, none⟩ := by unfold Addr.add; split <;> simp_all
    have hcell : w.cell? ⟨g, o + i, none⟩ = some cur[o + i] := by simp [World.cell?, hg, hi]
    have hfro : w.frozen? ⟨g, o + i, none⟩ = false := by
      have := hfr (o + i) (Nat.le_refl _) (by simp)
      obtain ⟨lo, hi'⟩ := fr
      simp only [World.frozen?, hg]
      simp only at this
      cases hd : (decide (lo ≤ o + i) && decide (o + i < hi')) with
      | false => rfl
      | true => simp at hd; exact absurd hd this
    have hst : (store ((⟨g, o, none⟩ : Addr).add i) v).run P w = .ok () (w.setRow g (cur.setIfInBounds (o + i) v)) := by
      rw [hadd, run_store P w _ v _ (h1 v (by simp)), hcell]
      simp [hfro, setCell_eq_setRow w g (o + i) cur t fr v hg]
    have ih := run_storeCells_fr (P := P) g o t fr rest (i + 1) (cur.setIfInBounds (o + i) v) (w.setRow g (cur.setIfInBounds (o + i) v)) (setRow_heap w g cur _ t _ hg) (by simp at hl ⊢; omega) (fun j h2 h3 => hfr j (by omega) (by simp; omega)) (fun x hx => h1 x (by simp [hx]))
    simp only [storeCells, Sem.run_bind, hst, Result.andThen_ok, ih, setRow_setRow]
    congr 3
    have e := list_seg_step cur.toList (o + i) v rest (by simp at hl ⊢; omega)
    simpa [Array.toList_setIfInBounds, Nat.add_assoc] using e
theorem OwnR.cells {w : World} {el : TypeId} {size g off cap n : Nat} {xs : List Value} (h : OwnR w el size (.slice (some ⟨g, off, none⟩) n cap) n xs) (j : Nat) (u : Value) (hu : xs[j]? = some u) : w.cell? ⟨g, off + j, none⟩ = some u := by
  rcases h.2 with ⟨h0, _⟩ | ⟨g', off', cap', cur, fr, he, hg, hnc, hcm, hcs, hfr, htake⟩
  · cases h0
  · cases he
    have hj : j < n * size := by
      have := (List.getElem?_eq_some_iff.1 hu).1
      rw [h.1] at this
      exact this
    rw [← htake, List.getElem?_take_of_lt hj, List.getElem?_drop, Array.getElem?_toList] at hu
    simp [World.cell?, hg, hu]
theorem run_append_src {P : Program} (w : World) {t tx ty el : TypeId} {size bytes : Nat} (ht : P.underlying t = some (.slice el)) (he : elOf P el size bytes = true) {v : Value} {n : Nat} {xs : List Value} (hown : OwnR w el size v n xs)
    {x : Value} {m : Nat} {news : List Value} (hs : Src P size tx x m news w) (h63 : n + m ≤ 4611686018427387904) (hb : (n + m) * bytes ≤ 140737488355328) :
    ∃ v' w', (Builtin.append_ #[t, tx] ty #[v, x]).run P w = .ok v' w' ∧ OwnR w' el size v' (n + m) (xs ++ news) ∧ w.grownBy w' v.ownBlock ∧ (∀ k, v'.ownBlock = some k → v.ownBlock = some k ∨ w.heap.size ≤ k) := by
  obtain ⟨i, z, hi, rfl, rfl, hpos, hz, hzs⟩ := elOf_parts he
  have hlen : (xs ++ news).length = (n + m) * i.size := by rw [List.length_append, hown.1, hs.newsLen, Nat.add_mul]
  have grown : ∀ (old : Nat) (row : Option Nat), old < n + m →
      OwnR (w.drew.alloc (.cells ((xs ++ news).toArray ++ Builtin.zeroCells z.cells (grownCap w (n + m) old el - (n + m))) el)) el i.size
        (.slice (some ⟨w.heap.size, 0, none⟩) (n + m) (grownCap w (n + m) old el)) (n + m) (xs ++ news) ∧
      w.grownBy (w.drew.alloc (.cells ((xs ++ news).toArray ++ Builtin.zeroCells z.cells (grownCap w (n + m) old el - (n + m))) el)) row := by
    intro old row ho
    have hge := grownCap_ge w (n + m) old el
    have hcm : grownCap w (n + m) old el ≤ maxLen := grownCap_le_maxLen w (n + m) old el (by simp only [maxLen]; omega)
    refine ⟨⟨hlen, .inr ⟨w.heap.size, 0, _, _, (0, 0), rfl, heap_alloc_new w.drew _, hge, hcm, ?_, by intro j _ _ h; simp at h, ?_⟩⟩, ⟨rfl, rfl, rfl, by simp, fun k hk _ => Below.heap_alloc w.drew _ k hk⟩⟩
    · rw [Array.size_append, List.size_toArray, size_zeroCells, hzs, hlen, ← Nat.add_mul, Nat.zero_add]
      exact Nat.mul_le_mul_right _ (by omega)
    · rw [Array.toList_append, ← hlen, List.drop_zero]
      exact List.take_left
  rcases hown.2 with ⟨rfl, rfl⟩ | ⟨g, off, cap, cur, fr, rfl, hg, hnc, hcm, hcs, hfr, htake⟩
  · have hx : xs = [] := List.eq_nil_of_length_eq_zero (by simpa using hown.1)
    subst hx
    by_cases hm : m = 0
    · subst hm
      have hn : news = [] := List.eq_nil_of_length_eq_zero (by simpa using hs.newsLen)
      subst hn
      refine ⟨.slice none 0 0, w, ?_, OwnR.nil w el i.size, ⟨rfl, rfl, rfl, Nat.le_refl _, fun _ _ _ => rfl⟩, by simp [Value.ownBlock]⟩
      rcases hs.kind with ⟨e', hk⟩ | hk <;> simp [Builtin.append_, run_underlying ht, run_underlying hk, sizeOf, typeInfo, hi, hs.len, hs.cells]
    · have hr := run_append_grow_src (P := P) w t tx ty el i z ht hi hz none 0 0 [] (by simp [Builtin.firstCells]) x m news hs (by omega) (by omega) (growslice_fits (by omega) hb)
      have hg := grown 0 (Value.ownBlock (.slice none 0 0)) (by omega)
      exact ⟨_, _, hr, hg.1, hg.2, fun k hk => .inr (by simp [Value.ownBlock] at hk; omega)⟩
  · by_cases hroom : n + m ≤ cap
    · have hmul : (n + m) * i.size ≤ cap * i.size := Nat.mul_le_mul_right _ hroom
      have hnl := hs.newsLen
      have hfit : n * i.size + news.length ≤ cap * i.size := by rw [hnl, ← Nat.add_mul]; exact hmul
      have hst := run_storeCells_fr (P := P) g (off + n * i.size) el fr news 0 cur w hg (by omega) (fun j h1 h2 => hfr j (by omega) (by omega)) hs.one
      simp only [Nat.add_zero] at hst
      have hr2 : (Builtin.append_ #[t, tx] ty #[.slice (some ⟨g, off, none⟩) n cap, x]).run P w = .ok (.slice (some ⟨g, off, none⟩) (n + m) cap) (w.setRow g (cur.toList.take (off + n * i.size) ++ news ++ cur.toList.drop (off + n * i.size + news.length)).toArray) := by
        have hadd : (⟨g, off, none⟩ : Addr).add (n * i.size) = ⟨g, off + n * i.size, none⟩ := by unfold Addr.add; split <;> simp_all
        rcases hs.kind with ⟨e', hk⟩ | hk <;> simp [Builtin.append_, run_underlying ht, run_underlying hk, sizeOf, typeInfo, hi, hs.len, hroom, hs.cells, hadd, hst]
      have h4 : (cur.toList.take (off + n * i.size)).length = off + n * i.size := by
        rw [List.length_take, Array.length_toList (xs := cur)]; omega
      refine ⟨_, _, hr2, ⟨hlen, .inr ⟨g, off, cap, _, fr, rfl, setRow_heap w g _ _ _ _ hg, hroom, hcm, ?_, hfr, ?_⟩⟩, ⟨rfl, rfl, rfl, by simp, fun k hk hne => setRow_other w g k _ (fun h => hne (by simp [Value.ownBlock, h]))⟩, fun k hk => .inl hk⟩
      · rw [List.size_toArray, List.length_append, List.length_append, h4, List.length_drop, Array.length_toList (xs := cur)]
        omega
      · show List.take ((n + m) * i.size) (List.drop off (cur.toList.take (off + n * i.size) ++ news ++ cur.toList.drop (off + n * i.size + news.length))) = _
        rw [List.append_assoc, List.drop_append_of_le_length (by rw [h4]; omega)]
        have h5 : List.drop off (cur.toList.take (off + n * i.size)) = xs := by
          rw [List.drop_take, ← htake]
          congr 1
          omega
        rw [h5, ← List.append_assoc, ← hlen, List.take_left]
    · have hold : (Builtin.firstCells i.size n (.slice (some ⟨g, off, none⟩) n cap)).run P w.drew = .ok xs.toArray w.drew := by
        refine run_firstCells_some w.drew i.size n ⟨g, off, none⟩ n cap xs hown.1 ?_
        intro j u hu
        have h2 : (⟨g, off, none⟩ : Addr).add j = ⟨g, off + j, none⟩ := by unfold Addr.add; split <;> simp_all
        rw [h2]
        exact hown.cells j u hu
      have hr := run_append_grow_src (P := P) w t tx ty el i z ht hi hz (some ⟨g, off, none⟩) n cap xs hold x m news hs (by omega) (by omega) (by
        have h1 : (n + m) * i.bytes ≤ 140737488355328 := hb
        exact growslice_fits (by omega) h1)
      have hg' := grown cap (Value.ownBlock (.slice (some ⟨g, off, none⟩) n cap)) (by omega)
      exact ⟨_, _, hr, hg'.1, hg'.2, fun k hk => .inr (by simp [Value.ownBlock] at hk; omega)⟩
end Go.Rx
/- The rule layer, sixth part: values built, slices made, appended to, cut. -/
namespace Go.Rx
open Go Go.RowKit
set_option linter.unusedVariables false
set_option linter.unusedSimpArgs false

/-! ### structs and arrays built -/
def fillL (place : Nat → Option (Nat × Nat)) (cs : List Value) : List (Nat × Value) → Option (List Value)
  | [] => some cs
  | (i, v) :: r =>
    match place i with
    | none => none
    | some (off, size) => match Nat.beq (cellsL v).length size, Nat.ble (off + (cellsL v).length) cs.length with
      | true, true => fillL place (cs.take off ++ cellsL v ++ cs.drop (off + (cellsL v).length)) r
      | _, _ => none
theorem foldl_set (vs : List Value) : ∀ (cs : List Value) (off k : Nat), off + k + vs.length ≤ cs.length →
    (vs.toArray.zipIdx k).foldl (fun (cs : Array Value) (x : Value × Nat) => cs.setIfInBounds (off + x.2) x.1) cs.toArray = (cs.take (off + k) ++ vs ++ cs.drop (off + k + vs.length)).toArray := by
  induction vs with
  | nil =>
    intro cs off k h
    have : (([] : List Value).toArray.zipIdx k) = #[] := by simp
    rw [this]
    simp
  | cons v vs ih =>
    intro cs off k h
    have h1 : (v :: vs).toArray.zipIdx k = ((v, k) :: (vs.zipIdx (k + 1))).toArray := by simp
    rw [h1]
    have h2 : ((v, k) :: (vs.zipIdx (k + 1))).toArray.foldl (fun (cs : Array Value) (x : Value × Nat) => cs.setIfInBounds (off + x.2) x.1) cs.toArray =
        (vs.toArray.zipIdx (k + 1)).foldl (fun (cs : Array Value) (x : Value × Nat) => cs.setIfInBounds (off + x.2) x.1) (cs.set (off + k) v).toArray := by
      simp
    rw [h2, ih (cs.set (off + k) v) off (k + 1) (by simp at h ⊢; omega)]
    congr 1
    simp only [List.length_cons] at h ⊢
    have e := list_seg_step cs (off + k) v vs (by omega)
    have h3 : off + (k + 1) = off + k + 1 := by omega
    rw [h3]
    simpa [Nat.add_assoc] using e
theorem fill_eq (place : Nat → Option (Nat × Nat)) : ∀ (parts : List (Nat × Value)) (cs ds : List Value), fillL place cs parts = some ds → Instr.fill place cs.toArray parts = some ds.toArray
  | [], cs, ds, h => by simp [fillL] at h; subst h; rfl
  | (i, v) :: r, cs, ds, h => by
    unfold fillL at h
    unfold Instr.fill
    cases hp : place i with
    | none => simp [hp] at h
    | some q =>
      obtain ⟨off, size⟩ := q
      simp only [hp] at h ⊢
      split at h
      · rename_i h1 h2
        have h1' : (cellsL v).length = size := Nat.eq_of_beq_eq_true h1
        have h2' : off + (cellsL v).length ≤ cs.length := Nat.le_of_ble_eq_true h2
        have ih := fill_eq place r _ ds h
        have hsz : v.cells.size = size := by rw [cellsL_eq]; simpa using h1'
        have hcond : ¬ ((decide (v.cells.size ≠ size) || decide (off + v.cells.size > cs.toArray.size)) = true) := by
          rw [cellsL_eq]
          simp
          exact ⟨h1', h2'⟩
        rw [if_neg hcond, ← ih, cellsL_eq]
        congr 1
        have := foldl_set (cellsL v) cs off 0 (by omega)
        simpa using this
      · cases h
def fieldPlaces (P : Program) (t : TypeId) : Option (List (Nat × Nat)) :=
  match P.underlying t with
  | some (.struct fs) => fs.toList.mapM fun f => (P.info? f.type).map fun i => (f.offset, i.size)
  | _ => none
theorem fieldPlaces_run {P : Program} {t : TypeId} {pl : List (Nat × Nat)} (h : fieldPlaces P t = some pl) : ∃ fs : Array Field, P.underlying t = some (.struct fs) ∧ ∀ w, (fs.mapM fun f => do pure (f.offset, ← sizeOf f.type) : Sem (Array (Nat × Nat))).run P w = .ok pl.toArray w := by
  unfold fieldPlaces at h
  split at h
  · rename_i fs hu
    refine ⟨fs, hu, fun w => ?_⟩
    have key : ∀ (l : List Field) (pl : List (Nat × Nat)), l.mapM (fun f => (P.info? f.type).map fun i => (f.offset, i.size)) = some pl →
        (l.mapM fun f => do pure (f.offset, ← sizeOf f.type) : Sem (List (Nat × Nat))).run P w = .ok pl w := by
      intro l
      induction l with
      | nil => intro pl h; simp at h; subst h; simp
      | cons f l ih =>
        intro pl h
        simp only [List.mapM_cons] at h
        cases hi : P.info? f.type with
        | none => simp [hi] at h
        | some i =>
          cases hl : l.mapM (fun f => (P.info? f.type).map fun i => (f.offset, i.size)) with
          | none => simp [hi, hl] at h
          | some pl' =>
            simp [hi, hl] at h
            subst h
            have := ih pl' hl
            simp [List.mapM_cons, sizeOf, typeInfo, hi] at this ⊢
            simp [this]
    have h3 := key fs.toList pl h
    have h4 : (fs.mapM fun f => do pure (f.offset, ← sizeOf f.type) : Sem (Array (Nat × Nat))) = List.toArray <$> (fs.toList.mapM fun f => do pure (f.offset, ← sizeOf f.type) : Sem (List (Nat × Nat))) := by
      rw [← List.mapM_toArray]
    rw [h4, Sem.run_map, h3]
    rfl
  · cases h
section
variable {P : Program} {w0 : World} {Cs H : List Chunk} {e : Env} {ty tx ty' : TypeId} {x y : Operand} {k k' : IntKind} {a b : Int}
theorem Ev.build {t : TypeId} {zs cs : List Value} {pl : List (Nat × Nat)} {l : List (Nat × Operand)} (hpl : fieldPlaces P t = some pl) (hz : zeroOf P t = some (.agg zs.toArray))
    (hcs : fillL (pl[·]?) zs (l.map fun p => (p.1, ev e p.2)) = some cs := by rfl) : Ev P w0 Cs H e (.build t l.toArray) ty (.agg cs.toArray) := by
  intro w _ d pos af g
  obtain ⟨fs, hu, hr⟩ := fieldPlaces_run hpl
  unfold zeroOf at hz
  cases hi : P.info? t with
  | none => simp [hi] at hz
  | some i =>
    simp [hi] at hz
    have hf := fill_eq _ _ _ _ hcs
    have hr' := hr w
    simp only [execOp, Instr.build, Sem.run_bind, zeroValue, typeInfo, run_program, Result.andThen_ok, hi, Sem.run_pure, hz, run_underlying hu, hr', Value.cells]
    have hp : (fun x : Nat => pl.toArray[x]?) = (fun x : Nat => pl[x]?) := by funext x; simp
    have hl : (Array.map (fun x : Nat × Operand => (x.1, ev e x.2)) l.toArray).toList = l.map fun p => (p.1, ev e p.2) := by simp
    rw [hp, hl, hf]
    rfl
def subSl (v : Value) (lo hi sz : Nat) : Value :=
  match v with
  | .slice A _ c => .slice (if c = lo then A else A.map (·.add (lo * sz))) (hi - lo) (c - lo)
  | v => v
theorem RSl.sub {α : Type} [Inhabited α] {enc : α → List Value} {sz : Nat} {w : World} {v : Value} {xs : List α} (h : RSl enc sz w Cs v xs) {lo hi : Nat} (h1 : lo ≤ hi) (h2 : hi ≤ xs.length) : RSl enc sz w Cs (subSl v lo hi sz) ((xs.drop lo).take (hi - lo)) := by
  obtain ⟨A, c, rfl, hc, hA⟩ := h.shape
  have hl : ((xs.drop lo).take (hi - lo)).length = hi - lo := by simp; omega
  refine ⟨⟨_, _, by rw [hl]; rfl, by rw [hl]; omega, ?_⟩, by have := h.small; omega, fun x hx => h.size x (List.mem_of_mem_drop (List.mem_of_mem_take hx)), ?_⟩
  · intro hn
    have : xs = [] := by
      cases A with
      | none => exact hA rfl
      | some a => split at hn <;> simp at hn
    subst this
    simp
  · intro i hi' j u hu
    rw [hl] at hi'
    have hget : ((xs.drop lo).take (hi - lo))[i]! = xs[lo + i]! := by
      rw [getElem!_pos _ i (by rw [hl]; exact hi'), getElem!_pos _ (lo + i) (by omega)]
      simp
    rw [hget] at hu
    have := h.cell (lo + i) (by omega) j u hu
    cases A with
    | none => have := hA rfl; subst this; simp at h2; omega
    | some ad =>
      have hne : c ≠ lo := by omega
      simp only [subSl, if_neg hne, Option.map, sbase] at this ⊢
      rw [Addr.add_add]
      have e1 : (lo + i) * sz + j = lo * sz + (i * sz + j) := by rw [Nat.add_mul, Nat.add_assoc]
      rwa [e1] at this
theorem Ev.cut {α : Type} [Inhabited α] {enc : α → List Value} {sz : Nat} {s el : TypeId} {v : Value} {xs : List α} {lo hi : Option Operand} {l h : Nat} (hs : slcOf P s el sz = true) (hx : Look e x v := by repeat (first | exact Look.here | apply Look.there (hne := rfl) | exact Look.const | apply Look.mix rfl | exact Look.arg0 | apply Look.args | exact Look.func)) (hr : RAt w0 Cs H enc sz v xs)
    (hlo : lo.elim (l = 0) (fun z => ∃ k, Look e z (.int k (l : Int)))) (hhi : hi.elim (h = xs.length) (fun z => ∃ k, Look e z (.int k (h : Int)))) (h1 : l ≤ h := by omega) (h2 : h ≤ xs.length := by omega) :
    Ev P w0 Cs H e (.slice s x lo hi none) ty (subSl v l h sz) := by
  intro w hw d pos af g
  replace hx := hx.eq
  obtain ⟨Cs', hr⟩ := hr w hw
  obtain ⟨A, c, rfl, hc, hA⟩ := hr.shape
  obtain ⟨hu, hz⟩ := slcOf_und hs
  have g1 : ¬ c < h := by omega
  have g2 : ¬ h < l := by omega
  have g3 : h ≤ c := by omega
  have g4 : l ≤ h := by omega
  cases lo with
  | none =>
    simp only [Option.elim] at hlo
    subst hlo
    cases hi with
    | none =>
      simp only [Option.elim] at hhi
      subst hhi
      simp [execOp, hx, Instr.sliceAt, Instr.slice, run_underlying hu, Instr.sliceBounds, szOf_run hz, subSl]
    | some z =>
      obtain ⟨k, hk⟩ := hhi
      replace hk := hk.eq
      simp [execOp, hx, hk, Instr.sliceAt, Instr.slice, run_underlying hu, Instr.sliceBounds, Instr.sliceBound, asIntOf, szOf_run hz, subSl, g1, g3]
  | some y =>
    obtain ⟨k2, hk2⟩ := hlo
    replace hk2 := hk2.eq
    cases hi with
    | none =>
      simp only [Option.elim] at hhi
      subst hhi
      simp [execOp, hx, hk2, Instr.sliceAt, Instr.slice, run_underlying hu, Instr.sliceBounds, Instr.sliceBound, asIntOf, szOf_run hz, subSl, g2, g4]
    | some z =>
      obtain ⟨k, hk⟩ := hhi
      replace hk := hk.eq
      simp [execOp, hx, hk, hk2, Instr.sliceAt, Instr.slice, run_underlying hu, Instr.sliceBounds, Instr.sliceBound, asIntOf, szOf_run hz, subSl, g1, g2, g3, g4]
end

/-! ### slices of the call's own -/
section
variable {P : Program} {n : Nat} {ops : Array Oper} {w0 : World} {Cs H : List Chunk} {e : Env} {K : Env → List Chunk → Prop} {rest : List Oper} {t : Nat} {ty : TypeId} {pos : String} {af : Array Edge} {x y : Operand} {Q : Exit → Env → List Chunk → Prop}
theorem RSl.owned {α : Type} [Inhabited α] {enc : α → List Value} {el : TypeId} {sz m i : Nat} {v : Value} {cs : List Value} {xs : List α} {w : World} (hH : At H i (.own el sz v m cs)) (hw : Upd w0 w Cs H) (hcs : cs = xs.flatMap enc) (hm : m = xs.length) (hsz : ∀ x, (enc x).length = sz) (hs : xs.length ≤ 4611686018427387904) :
    RSl enc sz w (H.eraseIdx i) v xs := by
  subst hcs hm
  have hok : OwnR w el sz v xs.length (xs.flatMap enc) := hH.ok hw
  have hsep := (hw.perm (At.perm hH).symm).own.sep
  rw [List.pairwise_cons] at hsep
  rcases hok.2 with ⟨rfl, h0⟩ | ⟨g, off, cap, cur, fr, rfl, hg, hc, hcm, _, _, htake⟩
  · have : xs = [] := List.eq_nil_of_length_eq_zero h0
    subst this
    exact ⟨⟨none, 0, rfl, Nat.le_refl _, fun _ => rfl⟩, by simp, by simp, fun i hi => by simp at hi⟩
  · refine ⟨⟨some ⟨g, off, none⟩, cap, rfl, hc, by simp⟩, hs, fun x _ => hsz x, ?_⟩
    intro k hk j u hu
    have hj : j < sz := by
      have := (List.getElem?_eq_some_iff.1 hu).1
      rw [hsz] at this
      exact this
    have hget : (xs.flatMap enc)[k * sz + j]? = some u := by
      have key : ∀ (xs : List α) (k : Nat), k < xs.length → (xs.flatMap enc)[k * sz + j]? = (enc xs[k]!)[j]? := by
        intro xs
        induction xs with
        | nil => intro k hk; simp at hk
        | cons x xs ih =>
          intro k hk
          cases k with
          | zero => simp [List.flatMap_cons, List.getElem?_append, hsz, hj]
          | succ k =>
            have := ih k (by simpa using hk)
            rw [List.flatMap_cons, List.getElem?_append_right (by rw [hsz, Nat.add_mul]; omega), hsz]
            have e1 : (k + 1) * sz + j - sz = k * sz + j := by rw [Nat.add_mul]; omega
            rw [e1, this]
            simp at hk
            simp [hk]
      rw [key xs k hk]
      exact hu
    refine ⟨?_, ?_⟩
    · have := hok.cells (k * sz + j) u hget
      have h2 : (⟨g, off, none⟩ : Addr).add (k * sz + j) = ⟨g, off + (k * sz + j), none⟩ := by unfold Addr.add; split <;> simp_all
      simpa [sbase, h2] using this
    · intro c hc hfp
      refine hsep.1 c hc g (by simp [Chunk.fp, Value.ownBlock]) ?_
      have hb : ((⟨g, off, none⟩ : Addr).add (k * sz + j)).block = g := by unfold Addr.add; split <;> rfl
      simpa [sbase, hb] using hfp
theorem RAt.own {α : Type} [Inhabited α] {enc : α → List Value} {el : TypeId} {sz m i : Nat} {v : Value} {cs : List Value} {xs : List α} (hH : At H i (.own el sz v m cs) := by repeat (first | exact At.z | apply At.s)) (hcs : cs = xs.flatMap enc := by rfl) (hm : m = xs.length := by rfl) (hsz : ∀ x, (enc x).length = sz := by intro _; rfl) (hs : xs.length ≤ 4611686018427387904 := by first | omega | simp) : RAt w0 Cs H enc sz v xs :=
  fun w hw => ⟨_, RSl.owned hH hw hcs hm hsz hs⟩
theorem RAt.box {α : Type} [Inhabited α] {enc : α → List Value} {el : TypeId} {sz m i b : Nat} {cs : List Value} {xs : List α} (hH : At H i (.box b el cs) := by repeat (first | exact At.z | apply At.s)) (hcs : cs = xs.flatMap enc := by rfl) (hm : m = xs.length := by rfl) (hsz : ∀ x, (enc x).length = sz := by intro _; rfl) (hs : xs.length ≤ 4611686018427387904 := by first | omega | simp) : RAt w0 Cs H enc sz (.slice (some ⟨b, 0, none⟩) m m) xs := by
  intro w hw
  have hl : cs.length = m * sz := by
    subst hcs hm
    clear hs hH
    induction xs with
    | nil => simp
    | cons x xs ih => rw [List.flatMap_cons, List.length_append, ih, hsz, List.length_cons, Nat.add_mul]; omega
  have h2 := Upd.boxOwn hw hH hl (by omega)
  have hH2 : At (H.set i (.own el sz (.slice (some ⟨b, 0, none⟩) m m) m cs)) i (.own el sz (.slice (some ⟨b, 0, none⟩) m m) m cs) := by
    have hlt := (List.getElem?_eq_some_iff.1 hH.eq).1
    exact ⟨by simp [hlt]⟩
  exact ⟨_, RSl.owned hH2 h2 hcs hm hsz hs⟩
theorem ownsRow_slice {w : World} {el sz m : Nat} {v : Value} {cs : List Value} (h : OwnR w el sz v m cs) : ∃ A c, v = .slice A m c := by
  rcases h.2 with ⟨rfl, rfl⟩ | ⟨g, off, cap, cur, fr, rfl, _⟩
  · exact ⟨_, _, rfl⟩
  · exact ⟨_, _, rfl⟩
theorem Seq.append {ts tx el : TypeId} {size bytes m j i : Nat} {v u : Value} {xs news : List Value} (ht : Nat.blt t n = true := by rfl) (hsl : slcOf P ts el size = true) (he : elOf P el size bytes = true)
    (hx : Look e x v := by repeat (first | exact Look.here | apply Look.there (hne := rfl) | exact Look.const | apply Look.mix rfl | exact Look.arg0 | apply Look.args | exact Look.func)) (hy : Look e y u := by repeat (first | exact Look.here | apply Look.there (hne := rfl) | exact Look.const | apply Look.mix rfl | exact Look.arg0 | apply Look.args | exact Look.func)) (hH : At H i (.own el size v m xs) := by repeat (first | exact At.z | apply At.s)) (hsrc : ∀ w, Upd w0 w Cs H → Src P size tx u j news w)
    (h63 : m + j ≤ 4611686018427387904 := by omega) (hb : (m + j) * bytes ≤ 140737488355328 := by omega)
    (k : ∀ A c, Seq P n ops w0 Cs rest (H.set i (.own el size (.slice A (m + j) c) (m + j) (xs ++ news))) (upd e t (.slice A (m + j) c)) K) :
    Seq P n ops w0 Cs (⟨some t, .call ⟨.builtin .append, #[x, y], #[ts, tx]⟩, ty, pos, af, none⟩ :: rest) H e K := by
  refine Seq.f ht (R := fun v' H' => ∃ A c, v' = .slice A (m + j) c ∧ H' = H.set i (.own el size (.slice A (m + j) c) (m + j) (xs ++ news))) ?_ ?_
  · intro w hw d pos af g
    replace hx := hx.eq
    replace hy := hy.eq
    have hown : OwnR w el size v m xs := hH.ok hw
    obtain ⟨v', w', hr, ho, hg, hv⟩ := run_append_src (ty := ty) w (slcOf_und hsl).1 he hown (hsrc w hw) h63 hb
    obtain ⟨A, c, rfl⟩ := ownsRow_slice ho
    refine ⟨_, w', _, .inl ?_, Upd.at_ hw hH (Upd.grown hg ho hv), A, c, rfl, rfl⟩
    simp [execOp, resolve, invoke, builtin, hx, hy, hr]
  · rintro v' H' ⟨A, c, rfl, rfl⟩
    exact k A c
theorem Src.box {tx el el' : TypeId} {size j i b cap : Nat} {cs news : List Value} {w : World} (hk : slcOf P tx el' size = true) (hH : At H i (.box b el cs)) (hw : Upd w0 w Cs H) (hl : news.length = j * size) (hc : ∀ (q : Nat) u, news[q]? = some u → cs[q]? = some u) (h1 : (news.all fun u => u.oneCell') = true := by rfl) :
    Src P size tx (.slice (some ⟨b, 0, none⟩) j cap) j news w := by
  refine Src.ofSlice w (slcOf_und hk).1 _ j cap news hl ?_ (List.all_eq_true.1 h1)
  intro q u hu
  have hb : w.heap[b]? = some (.cells cs.toArray el (0, 0)) := hH.ok hw
  have h2 : (⟨b, 0, none⟩ : Addr).add q = ⟨b, q, none⟩ := by unfold Addr.add; split <;> simp_all
  rw [h2, cell_of_row w b q cs.toArray el (0, 0) hb]
  simpa using hc q u hu
theorem Src.rsl {α : Type} [Inhabited α] {enc : α → List Value} {tx el' : TypeId} {size : Nat} {v : Value} {xs : List α} {w : World} {Gs : List Chunk} (hk : slcOf P tx el' size = true) (hr : RSl enc size w Gs v xs) (hpos : 0 < size) (h1 : ∀ x, ∀ u ∈ enc x, u.oneCell' = true) :
    Src P size tx v xs.length (xs.flatMap enc) w := by
  obtain ⟨A, c, rfl, hc, hA⟩ := hr.shape
  cases A with
  | none =>
    have := hA rfl
    subst this
    simp
    exact Src.ofNil w (slcOf_und hk).1 c
  | some ad =>
    have hlen : (xs.flatMap enc).length = xs.length * size := by
      have key : ∀ ys : List α, (∀ y ∈ ys, (enc y).length = size) → (ys.flatMap enc).length = ys.length * size := by
        intro ys
        induction ys with
        | nil => intro _; simp
        | cons y ys ih =>
          intro h
          rw [List.flatMap_cons, List.length_append, ih (fun z hz => h z (List.mem_cons_of_mem _ hz)), h y (List.mem_cons_self ..), List.length_cons, Nat.add_mul]
          omega
      exact key xs hr.size
    refine Src.ofSlice w (slcOf_und hk).1 ad xs.length c _ hlen ?_ ?_
    · intro q u hu
      have key : ∀ (ys : List α), (∀ y ∈ ys, (enc y).length = size) → ∀ (q : Nat) u, (ys.flatMap enc)[q]? = some u → q / size < ys.length ∧ (enc ys[q / size]!)[q % size]? = some u := by
        intro ys
        induction ys with
        | nil => intro _ q u h; simp at h
        | cons y ys ih =>
          intro hs q u h
          rw [List.flatMap_cons] at h
          have hy := hs y (List.mem_cons_self ..)
          by_cases hq : q < size
          · rw [List.getElem?_append_left (by rw [hy]; exact hq)] at h
            rw [Nat.div_eq_of_lt hq, Nat.mod_eq_of_lt hq]
            exact ⟨by simp, by simpa using h⟩
          · rw [List.getElem?_append_right (by rw [hy]; omega), hy] at h
            obtain ⟨h3, h4⟩ := ih (fun z hz => hs z (List.mem_cons_of_mem _ hz)) (q - size) u h
            have e1 : q / size = (q - size) / size + 1 := by
              rw [Nat.div_eq q size, if_pos ⟨hpos, by omega⟩]
            have e2 : q % size = (q - size) % size := by
              rw [Nat.mod_eq q size, if_pos ⟨hpos, by omega⟩]
            rw [e1, e2]
            refine ⟨by simp; omega, ?_⟩
            have : (y :: ys)[(q - size) / size + 1]! = ys[(q - size) / size]! := by
              simp [h3]
            rw [this]
            exact h4
      obtain ⟨h3, h4⟩ := key xs hr.size q u hu
      have h5 := (hr.cell (q / size) h3 (q % size) u h4).1
      have e1 : q / size * size + q % size = q := by
        rw [Nat.mul_comm]; exact Nat.div_add_mod q size
      rw [e1] at h5
      exact h5
    · intro u hu
      obtain ⟨z, _, hz⟩ := List.mem_flatMap.1 hu
      exact h1 z u hz
theorem Seq.buildSl {ts el : TypeId} {size len : Nat} {z : Value} {zs cs : List Value} {l : List (Nat × Operand)} (ht : Nat.blt t n = true := by rfl) (hsl : slcOf P ts el size = true) (hz : zeroOf P el = some z) (hzs : cellsL z = zs := by rfl) (hlen : Nat.ble (len * size) 16777216 = true := by rfl)
    (hcs : fillL (fun i => some (i * size, size)) ((List.range (len * size)).map fun q => zs[q % zs.length]!) (l.map fun p => (p.1, ev e p.2)) = some cs)
    (k : ∀ b, Seq P n ops w0 Cs rest (.box b el cs :: H) (upd e t (.slice (some ⟨b, 0, none⟩) len len)) K) :
    Seq P n ops w0 Cs (⟨some t, .buildSlice ts len l.toArray, ty, pos, af, none⟩ :: rest) H e K := by
  refine Seq.f ht (R := fun v H' => ∃ b, v = .slice (some ⟨b, 0, none⟩) len len ∧ H' = .box b el cs :: H) ?_ ?_
  · intro w hw d pos af g
    refine ⟨_, _, _, .inl ?_, Upd.alloc hw (.cells cs.toArray el), _, rfl, rfl⟩
    obtain ⟨hu, hs⟩ := slcOf_und hsl
    have hle : ¬ (len * size > 16777216) := by
      have := Nat.le_of_ble_eq_true hlen
      omega
    unfold zeroOf at hz
    cases hi : P.info? el with
    | none => simp [hi] at hz
    | some i =>
      simp [hi] at hz
      have hf := fill_eq _ _ _ _ hcs
      have hl : (Array.map (fun x : Nat × Operand => (x.1, ev e x.2)) l.toArray).toList = l.map fun p => (p.1, ev e p.2) := by simp
      have hzero : (Array.map (fun x => z.cells[x % z.cells.size]!) (Array.range (len * size))) = ((List.range (len * size)).map fun q => zs[q % zs.length]!).toArray := by
        rw [cellsL_eq, hzs]
        apply Array.ext'
        simp
      have hle' : ¬ (2 ^ 24 < len * size) := by
        have : (2 : Nat) ^ 24 = 16777216 := by decide
        omega
      have hnr : ∀ c : Array Value, (newRow el c).run P w = .ok ⟨w.heap.size, 0, none⟩ (w.alloc (.cells c el)) := fun _ => rfl
      simp only [execOp, Instr.buildSlice, Sem.run_bind, run_underlying hu, Result.andThen_ok, szOf_run hs, gt_iff_lt, if_neg hle', Sem.run_pure]
      by_cases h0 : len * size = 0
      · have hempty : ((List.range (len * size)).map fun q => zs[q % zs.length]!).toArray = #[] := by rw [h0]; rfl
        rw [hempty] at hf
        rw [if_pos h0]
        have hr0 : Array.map (fun x => (#[] : Array Value)[x % (#[] : Array Value).size]!) (Array.range (len * size)) = #[] := by rw [h0]; simp
        simp only [pure_bind]
        rw [hr0, hl, hf]
        simp only [Sem.run_bind, hnr, Result.andThen_ok, Sem.run_pure]
      · rw [if_neg h0]
        simp only [Sem.run_bind, zeroValue, typeInfo, run_program, Result.andThen_ok, hi, Sem.run_pure, hz]
        rw [hzero, hl, hf]
        simp only [Sem.run_bind, hnr, Result.andThen_ok, Sem.run_pure]
  · rintro v H' ⟨b, rfl, rfl⟩
    exact k b
end
end Go.Rx
/- The rule layer, seventh part: rules of control in the shapes in which the code comes. -/
namespace Go.Rx
open Go Go.RowKit
set_option linter.unusedVariables false
set_option linter.unusedSimpArgs false
section
variable {P : Program} {n : Nat} {w0 : World} {Cs H : List Chunk} {e : Env} {Q : Exit → Env → List Chunk → Prop} {x y z : Code}
theorem JC.rs {id : Nat} {l : List Oper} (h : Seq P n l.toArray w0 Cs l H e (fun e' H' => JC P n w0 Cs y H' e' Q)) : JC P n w0 Cs (.seq (.region id l.toArray false) y) H e Q :=
  JC.seq (JC.reg h)
theorem JC.qs {id : Nat} {l : List Oper} (hm : P.follows .mixedOrders = true) (hB : Region.lexB .any l.toArray = true) (h : Qui P n l.toArray w0 Cs H l e (fun e' => JC P n w0 Cs y H e' Q)) : JC P n w0 Cs (.seq (.region id l.toArray true) y) H e Q :=
  JC.seq (JC.quiet hm hB h)
theorem JC.c {c : Operand} {p : Prop} [Decidable p] (hc : Look e c (.bool (decide p)) := by repeat (first | exact Look.here | apply Look.there (hne := rfl) | exact Look.const | apply Look.mix rfl | exact Look.arg0 | apply Look.args | exact Look.func)) (ht : p → JC P n w0 Cs x H e Q) (hf : ¬ p → JC P n w0 Cs y H e Q) : JC P n w0 Cs (.cond c x y) H e Q :=
  JC.condP hc.eq ht hf
theorem JC.cb {c : Operand} {b : Bool} (hc : Look e c (.bool b) := by repeat (first | exact Look.here | apply Look.there (hne := rfl) | exact Look.const | apply Look.mix rfl | exact Look.arg0 | apply Look.args | exact Look.func)) (ht : b = true → JC P n w0 Cs x H e Q) (hf : b = false → JC P n w0 Cs y H e Q) : JC P n w0 Cs (.cond c x y) H e Q :=
  JC.cond hc.eq ht hf
theorem JC.cT {c : Operand} (hc : Look e c (.bool true) := by repeat (first | exact Look.here | apply Look.there (hne := rfl) | exact Look.const | apply Look.mix rfl | exact Look.arg0 | apply Look.args | exact Look.func)) (h : JC P n w0 Cs x H e Q) : JC P n w0 Cs (.cond c x y) H e Q := JC.condT hc.eq h
theorem JC.cF {c : Operand} (hc : Look e c (.bool false) := by repeat (first | exact Look.here | apply Look.there (hne := rfl) | exact Look.const | apply Look.mix rfl | exact Look.arg0 | apply Look.args | exact Look.func)) (h : JC P n w0 Cs y H e Q) : JC P n w0 Cs (.cond c x y) H e Q := JC.condF hc.eq h
theorem JC.blk {id : Nat} (h : JC P n w0 Cs x H e (blockQ id Q)) : JC P n w0 Cs (.block id x) H e Q := JC.block h
theorem Seq.split {ops : Array Oper} {K : Env → List Chunk → Prop} {l : List Oper} {d : Nat} {b : Bool} (hd : Look e (.tmp d) (.bool b) := by repeat (first | exact Look.here | apply Look.there (hne := rfl) | exact Look.const | apply Look.mix rfl | exact Look.arg0 | apply Look.args | exact Look.func)) (k : ∀ c : Bool, b = c → Seq P n ops w0 Cs l H (upd e d (.bool c)) K) : Seq P n ops w0 Cs l H e K := by
  have h := k b rfl
  have he : upd e d (.bool b) = e := by
    funext j
    by_cases hj : j = d
    · subst hj; rw [upd_same]; exact hd.eq.symm
    · rw [upd_ne _ _ hj]
  rwa [he] at h
theorem Qui.split {ops : Array Oper} {K : Env → Prop} {l : List Oper} {d : Nat} {b : Bool} (hd : Look e (.tmp d) (.bool b) := by repeat (first | exact Look.here | apply Look.there (hne := rfl) | exact Look.const | apply Look.mix rfl | exact Look.arg0 | apply Look.args | exact Look.func)) (k : ∀ c : Bool, b = c → Qui P n ops w0 Cs H l (upd e d (.bool c)) K) : Qui P n ops w0 Cs H l e K := by
  have h := k b rfl
  have he : upd e d (.bool b) = e := by
    funext j
    by_cases hj : j = d
    · subst hj; rw [upd_same]; exact hd.eq.symm
    · rw [upd_ne _ _ hj]
  rwa [he] at h
theorem retI {rs : List ResultVar} {Post : Value → List Chunk → Prop} {vs : List Value} {H' : List Chunk} (h : RVs P w0 Cs H e rs vs) (hp : Part H' H) (hpost : Post (pack vs) H') : retQ P w0 Cs rs Post .ret e H := by
  unfold retQ
  exact ⟨vs, H', h, hp, hpost⟩
theorem RVs.t {t : Tmp} {v : Value} {rs : List ResultVar} {vs : List Value} (hv : Look e (.tmp t) v := by repeat (first | exact Look.here | apply Look.there (hne := rfl) | exact Look.const | apply Look.mix rfl | exact Look.arg0 | apply Look.args | exact Look.func)) (hs : RVs P w0 Cs H e rs vs) : RVs P w0 Cs H e (.tmp t :: rs) (v :: vs) := by
  have h := RV.tmp (P := P) (w0 := w0) (Cs := Cs) (H := H) (e := e) t
  have hv' : e t = v := hv.eq
  rw [hv'] at h
  exact RVs.cons h hs
theorem RVs.bA {a : Tmp} {ty tb : TypeId} {b i m : Nat} {cs : List Value} {rs : List ResultVar} {vs : List Value} (hag : isAg P ty m = true) (ha : Look e (.tmp a) (.pointer (some ⟨b, 0, none⟩)) := by repeat (first | exact Look.here | apply Look.there (hne := rfl) | exact Look.const | apply Look.mix rfl | exact Look.arg0 | apply Look.args | exact Look.func)) (hH : At H i (.box b tb cs) := by repeat (first | exact At.z | apply At.s)) (hm : cs.length = m := by rfl) (hs : RVs P w0 Cs H e rs vs) :
    RVs P w0 Cs H e (.cell a ty :: rs) (.agg cs.toArray :: vs) := by
  refine RVs.cons (RV.cell a ty ⟨b, 0, none⟩ _ ha.eq ?_) hs
  intro w hw
  have hc : Cells w0 Cs H ⟨b, 0, none⟩ cs := Cells.boxed hH (fun j u hu => by simpa using hu)
  have h := run_loadCells_list (P := P) (w := w) ⟨b, 0, none⟩ cs (hc w hw)
  obtain ⟨h1, h2⟩ := isAg_run hag w
  simp [loadVar, h1, h2, ← hm, h]
theorem retB1 {a : Tmp} {ty tb : TypeId} {b i m : Nat} {cs : List Value} {Post : Value → List Chunk → Prop} {H' : List Chunk} (hag : isAg P ty m = true) (ha : Look e (.tmp a) (.pointer (some ⟨b, 0, none⟩)) := by repeat (first | exact Look.here | apply Look.there (hne := rfl) | exact Look.const | apply Look.mix rfl | exact Look.arg0 | apply Look.args | exact Look.func)) (hH : At H i (.box b tb cs) := by repeat (first | exact At.z | apply At.s)) (hm : cs.length = m := by rfl) (hp : Part H' H) (hpost : Post (.agg cs.toArray) H') : retQ P w0 Cs [.cell a ty] Post .ret e H :=
  retI (RVs.bA hag ha hH hm RVs.nil) hp hpost
theorem retB2 {a t2 : Tmp} {v2 : Value} {ty tb : TypeId} {b i m : Nat} {cs : List Value} {Post : Value → List Chunk → Prop} {H' : List Chunk} (hag : isAg P ty m = true) (ha : Look e (.tmp a) (.pointer (some ⟨b, 0, none⟩)) := by repeat (first | exact Look.here | apply Look.there (hne := rfl) | exact Look.const | apply Look.mix rfl | exact Look.arg0 | apply Look.args | exact Look.func)) (hH : At H i (.box b tb cs) := by repeat (first | exact At.z | apply At.s)) (hm : cs.length = m := by rfl) (hv2 : Look e (.tmp t2) v2 := by repeat (first | exact Look.here | apply Look.there (hne := rfl) | exact Look.const | apply Look.mix rfl | exact Look.arg0 | apply Look.args | exact Look.func)) (hp : Part H' H) (hpost : Post (.tuple #[.agg cs.toArray, v2]) H') : retQ P w0 Cs [.cell a ty, .tmp t2] Post .ret e H :=
  retI (RVs.bA hag ha hH hm (RVs.t hv2 RVs.nil)) hp hpost
theorem retB3 {a t2 t3 : Tmp} {v2 v3 : Value} {ty tb : TypeId} {b i m : Nat} {cs : List Value} {Post : Value → List Chunk → Prop} {H' : List Chunk} (hag : isAg P ty m = true) (ha : Look e (.tmp a) (.pointer (some ⟨b, 0, none⟩)) := by repeat (first | exact Look.here | apply Look.there (hne := rfl) | exact Look.const | apply Look.mix rfl | exact Look.arg0 | apply Look.args | exact Look.func)) (hH : At H i (.box b tb cs) := by repeat (first | exact At.z | apply At.s)) (hm : cs.length = m := by rfl) (hv2 : Look e (.tmp t2) v2 := by repeat (first | exact Look.here | apply Look.there (hne := rfl) | exact Look.const | apply Look.mix rfl | exact Look.arg0 | apply Look.args | exact Look.func)) (hv3 : Look e (.tmp t3) v3 := by repeat (first | exact Look.here | apply Look.there (hne := rfl) | exact Look.const | apply Look.mix rfl | exact Look.arg0 | apply Look.args | exact Look.func)) (hp : Part H' H) (hpost : Post (.tuple #[.agg cs.toArray, v2, v3]) H') : retQ P w0 Cs [.cell a ty, .tmp t2, .tmp t3] Post .ret e H :=
  retI (RVs.bA hag ha hH hm (RVs.t hv2 (RVs.t hv3 RVs.nil))) hp hpost
theorem ret1 {t : Tmp} {v : Value} {Post : Value → List Chunk → Prop} {H' : List Chunk} (hv : Look e (.tmp t) v := by repeat (first | exact Look.here | apply Look.there (hne := rfl) | exact Look.const | apply Look.mix rfl | exact Look.arg0 | apply Look.args | exact Look.func)) (hp : Part H' H) (hpost : Post v H') : retQ P w0 Cs [.tmp t] Post .ret e H :=
  retI (RVs.t hv RVs.nil) hp hpost
theorem ret2 {t t2 : Tmp} {v v2 : Value} {Post : Value → List Chunk → Prop} {H' : List Chunk} (hv : Look e (.tmp t) v := by repeat (first | exact Look.here | apply Look.there (hne := rfl) | exact Look.const | apply Look.mix rfl | exact Look.arg0 | apply Look.args | exact Look.func)) (hv2 : Look e (.tmp t2) v2 := by repeat (first | exact Look.here | apply Look.there (hne := rfl) | exact Look.const | apply Look.mix rfl | exact Look.arg0 | apply Look.args | exact Look.func)) (hp : Part H' H) (hpost : Post (.tuple #[v, v2]) H') : retQ P w0 Cs [.tmp t, .tmp t2] Post .ret e H :=
  retI (RVs.t hv (RVs.t hv2 RVs.nil)) hp hpost
theorem Cells.cell {a : Addr} {v : Value} (h : Cell w0 Cs a v) : Cells w0 Cs H a [v] := by
  intro w hw j u hu
  cases j with
  | zero => simp at hu; subst hu; rw [Addr.add_zero]; exact h.up hw
  | succ j => simp at hu
theorem box_cell {w : World} {i b off : Nat} {t : TypeId} {cs : List Value} {v : Value} (hw : Upd w0 w Cs H) (hH : At H i (.box b t cs)) (hv : cs[off]? = some v) : Cell w [] ⟨b, off, none⟩ v := by
  have hb : w.heap[b]? = some (.cells cs.toArray t (0, 0)) := hH.ok hw
  refine ⟨?_, by simp⟩
  rw [cell_of_row w b off cs.toArray t (0, 0) hb]
  simpa using hv
end
end Go.Rx
/- The rule layer, eighth part: structs and arrays of plain data held against each other. -/
namespace Go.Rx
open Go Go.RowKit
set_option linter.unusedVariables false
set_option linter.unusedSimpArgs false
def eqV : Value → Value → Bool
  | .int _ a, .int _ b => decide (a = b)
  | .bool a, .bool b => decide (a = b)
  | .string a, .string b => decide (a = b)
  | _, _ => false
def eqL : List Value → List Value → Bool
  | x :: xs, y :: ys => eqV x y && eqL xs ys
  | [], [] => true
  | _, _ => false
inductive Sort1 where
  | int (k : IntKind) | bool | str
deriving DecidableEq
def sortsF (g : TypeId → Option (List Sort1)) : List Field → Nat → Option (List Sort1)
  | [], _ => some []
  | f :: fs, off =>
    match decide (f.name ≠ "_") && (f.offset == off), g f.type with
    | true, some l => match sortsF g fs (off + l.length) with
      | some r => some (l ++ r)
      | none => none
    | _, _ => none
def sorts (P : Program) : Nat → TypeId → Option (List Sort1)
  | 0, _ => none
  | d + 1, t =>
    match P.underlying t with
    | some (.int k) => if P.cellsOf t = 1 then some [.int k] else none
    | some .bool => if P.cellsOf t = 1 then some [.bool] else none
    | some .string => if P.cellsOf t = 1 then some [.str] else none
    | some (.struct fs) => match !P.stoodInHeld t, sortsF (sorts P d) fs.toList 0, P.info? t with
      | true, some l, some i => if i.size = l.length then some l else none
      | _, _, _ => none
    | some (.array len e) => match sorts P d e, P.info? e, P.info? t with
      | some l, some i, some j => if i.size = l.length ∧ j.size = len * l.length then some (List.replicate len l).flatten else none
      | _, _, _ => none
    | _ => none
def isSort : Sort1 → Value → Bool
  | .int k, .int j _ => decide (j = k)
  | .bool, .bool _ => true
  | .str, .string _ => true
  | _, _ => false
def areSorts : List Sort1 → List Value → Bool
  | s :: l, v :: vs => isSort s v && areSorts l vs
  | [], [] => true
  | _, _ => false
theorem areSorts_length {l : List Sort1} {vs : List Value} (h : areSorts l vs = true) : vs.length = l.length := by
  induction l generalizing vs with
  | nil => cases vs <;> simp_all [areSorts]
  | cons s l ih => cases vs with
    | nil => simp [areSorts] at h
    | cons v vs => simp [areSorts] at h; simp [ih h.2]
theorem areSorts_append {l r : List Sort1} {vs : List Value} (h : areSorts (l ++ r) vs = true) : areSorts l (vs.take l.length) = true ∧ areSorts r (vs.drop l.length) = true := by
  induction l generalizing vs with
  | nil => simpa [areSorts] using h
  | cons s l ih => cases vs with
    | nil => simp [areSorts] at h
    | cons v vs =>
      simp [areSorts] at h ⊢
      obtain ⟨h1, h2⟩ := ih h.2
      exact ⟨⟨h.1, h1⟩, h2⟩
theorem eqL_split : ∀ (n : Nat) (xs ys : List Value), n ≤ xs.length → n ≤ ys.length → eqL xs ys = (eqL (xs.take n) (ys.take n) && eqL (xs.drop n) (ys.drop n))
  | 0, xs, ys, _, _ => by simp [eqL]
  | n + 1, [], ys, h, _ => by simp at h
  | n + 1, x :: xs, [], _, h => by simp at h
  | n + 1, x :: xs, y :: ys, h1, h2 => by
    simp only [eqL, List.take_succ_cons, List.drop_succ_cons]
    rw [eqL_split n xs ys (by simpa using h1) (by simpa using h2), Bool.and_assoc]
def mkV (P : Program) (t : TypeId) (cs : List Value) : Value := if isSc P t then cs.headD undef else .agg cs.toArray
section
variable {P : Program}
theorem sorts_und {d : Nat} {t : TypeId} {l : List Sort1} (h : sorts P d t = some l) : (isSc P t = true ∧ l.length = 1) ∨ (isSc P t = false ∧ isAg P t l.length = true) := by
  cases d with
  | zero => simp [sorts] at h
  | succ d =>
    unfold sorts at h
    unfold isSc isAg
    split at h
    · rename_i hu; simp at h; obtain ⟨hone, rfl⟩ := h; simp [hu]
    · rename_i hu; simp at h; obtain ⟨hone, rfl⟩ := h; simp [hu]
    · rename_i hu; simp at h; obtain ⟨hone, rfl⟩ := h; simp [hu]
    · rename_i hu
      split at h
      · rename_i i h1 h2 h3
        split at h
        · rename_i hs
          simp at h
          subst h
          right
          simp [hu, h3, hs]
        · cases h
      · cases h
    · rename_i hu
      split at h
      · rename_i l' i j h1 h2 h3
        split at h
        · rename_i hs
          simp at h
          subst h
          right
          simp [hu, h3, hs]
        · cases h
      · cases h
    · cases h
theorem sorts_cells {d : Nat} {t : TypeId} {l : List Sort1} (h : sorts P d t = some l) : P.cellsOf t = l.length := by
  cases d with
  | zero => simp [sorts] at h
  | succ d =>
    unfold sorts at h
    split at h
    · simp at h; obtain ⟨hone, rfl⟩ := h; exact hone
    · simp at h; obtain ⟨hone, rfl⟩ := h; exact hone
    · simp at h; obtain ⟨hone, rfl⟩ := h; exact hone
    · split at h
      · rename_i i h1 h2 h3
        split at h
        · rename_i hs
          simp at h
          subst h
          simp [Program.cellsOf, h3, hs]
        · cases h
      · cases h
    · split at h
      · rename_i l' i j h1 h2 h3
        split at h
        · rename_i hs
          simp at h
          subst h
          simp [Program.cellsOf, h3, hs]
        · cases h
      · cases h
    · cases h
theorem run_part_mk {d : Nat} {t : TypeId} {l : List Sort1} (h : sorts P d t = some l) {cs : List Value} {off : Nat} (hl : off + l.length ≤ cs.length) (w : World) : (Go.part t cs.toArray off).run P w = .ok (mkV P t ((cs.drop off).take l.length)) w := by
  rcases sorts_und h with ⟨h1, h2⟩ | ⟨h1, h2⟩
  · have hlt : off < cs.length := by omega
    rw [run_part_sc h1 (cs := cs) (off := off) (v := cs[off]) (by simp [hlt])]
    simp only [mkV, h1, if_true, h2]
    congr 1
    have : cs.drop off = cs[off] :: cs.drop (off + 1) := by rw [List.drop_eq_getElem_cons hlt]
    rw [this]
    rfl
  · rw [run_part_ag h2]
    simp [mkV, h1]
theorem eqFields_run (d : Nat) {D : Nat} (g : ∀ t l, sorts P d t = some l → ∀ xs ys, areSorts l xs = true → areSorts l ys = true → ∀ w, (Op.equalIn D t (mkV P t xs) (mkV P t ys)).run P w = .ok (eqL xs ys) w) :
    ∀ (fs : List Field) (off : Nat) (l : List Sort1), sortsF (sorts P d) fs off = some l → ∀ xs ys : List Value, areSorts l (xs.drop off) = true → areSorts l (ys.drop off) = true → off ≤ xs.length → off ≤ ys.length →
      ∀ w, (Op.eqFields D xs.toArray ys.toArray fs).run P w = .ok (eqL (xs.drop off) (ys.drop off)) w
  | [], off, l, h, xs, ys, hx, hy, ox, oy, w => by
    simp [sortsF] at h
    subst h
    have h1 := areSorts_length hx
    have h2 := areSorts_length hy
    have e1 : xs.drop off = [] := List.eq_nil_of_length_eq_zero h1
    have e2 : ys.drop off = [] := List.eq_nil_of_length_eq_zero h2
    rw [e1, e2]
    simp [Op.eqFields, eqL]
  | f :: fs, off, l, h, xs, ys, hx, hy, ox, oy, w => by
    unfold sortsF at h
    split at h
    · rename_i l1 hc hl1
      split at h
      · rename_i r hr
        simp at h
        subst h
        simp only [Bool.and_eq_true, decide_eq_true_eq, beq_iff_eq] at hc
        obtain ⟨hname, hoff⟩ := hc
        have lx := areSorts_length hx
        have ly := areSorts_length hy
        simp only [List.length_drop, List.length_append] at lx ly
        have bx : off + l1.length ≤ xs.length := by omega
        have by' : off + l1.length ≤ ys.length := by omega
        obtain ⟨hx1, hx2⟩ := areSorts_append hx
        obtain ⟨hy1, hy2⟩ := areSorts_append hy
        have hd : ∀ zs : List Value, (zs.drop off).drop l1.length = zs.drop (off + l1.length) := fun zs => by rw [List.drop_drop]
        rw [hd] at hx2 hy2
        have ih := eqFields_run d g fs (off + l1.length) r hr xs ys hx2 hy2 bx by' w
        have he := g f.type l1 hl1 _ _ hx1 hy1 w
        have hsplit := eqL_split l1.length (xs.drop off) (ys.drop off) (by simp; omega) (by simp; omega)
        rw [hd, hd] at hsplit
        rw [hsplit]
        unfold Op.eqFields
        rw [if_pos hname, hoff]
        simp only [Sem.run_bind, run_part_mk hl1 bx, run_part_mk hl1 by', Result.andThen_ok, he]
        cases hb : eqL ((xs.drop off).take l1.length) ((ys.drop off).take l1.length) with
        | false => simp
        | true => simp [ih]
      · cases h
    · cases h
theorem eqArr_run {D : Nat} {el : TypeId} {l : List Sort1} {len : Nat} {w : World} (g : ∀ xs ys, areSorts l xs = true → areSorts l ys = true → (Op.equalIn D el (mkV P el xs) (mkV P el ys)).run P w = .ok (eqL xs ys) w)
    {d : Nat} (hs : sorts P d el = some l) : ∀ (m k : Nat) (xs ys : List Value), k + m = len → areSorts (List.replicate m l).flatten (xs.drop (k * l.length)) = true → areSorts (List.replicate m l).flatten (ys.drop (k * l.length)) = true → k * l.length ≤ xs.length → k * l.length ≤ ys.length →
      (forIn (m := Sem) (List.range' k m) ((none, ()) : Option Bool × Unit) (fun i r => do
        let b ← Op.equalIn D el (← Go.part el xs.toArray (i * l.length)) (← Go.part el ys.toArray (i * l.length))
        if (!b) = true then pure (ForInStep.done (some false, ())) else pure (ForInStep.yield (none, ())))).run P w = .ok (if eqL (xs.drop (k * l.length)) (ys.drop (k * l.length)) then (none, ()) else (some false, ())) w
  | 0, k, xs, ys, hk, hx, hy, bx, by' => by
    have h1 := areSorts_length hx
    have h2 := areSorts_length hy
    have e1 : xs.drop (k * l.length) = [] := List.eq_nil_of_length_eq_zero (by simpa using h1)
    have e2 : ys.drop (k * l.length) = [] := List.eq_nil_of_length_eq_zero (by simpa using h2)
    rw [e1, e2]
    simp [eqL]
  | m + 1, k, xs, ys, hk, hx, hy, bx, by' => by
    rw [List.replicate_succ, List.flatten_cons] at hx hy
    have lx := areSorts_length hx
    have ly := areSorts_length hy
    simp only [List.length_drop, List.length_append] at lx ly
    obtain ⟨hx1, hx2⟩ := areSorts_append hx
    obtain ⟨hy1, hy2⟩ := areSorts_append hy
    have hd : ∀ zs : List Value, (zs.drop (k * l.length)).drop l.length = zs.drop ((k + 1) * l.length) := fun zs => by rw [List.drop_drop, Nat.add_mul, Nat.one_mul]
    rw [hd] at hx2 hy2
    have e1 : (k + 1) * l.length = k * l.length + l.length := by rw [Nat.add_mul, Nat.one_mul]
    have ih := eqArr_run (len := len) g hs m (k + 1) xs ys (by omega) hx2 hy2 (by omega) (by omega)
    have he := g _ _ hx1 hy1
    have hsplit := eqL_split l.length (xs.drop (k * l.length)) (ys.drop (k * l.length)) (by simp; omega) (by simp; omega)
    rw [hd, hd] at hsplit
    rw [hsplit, List.range'_succ]
    simp only [List.forIn_cons, Sem.run_bind, run_part_mk hs (show k * l.length + l.length ≤ xs.length by omega), run_part_mk hs (show k * l.length + l.length ≤ ys.length by omega), Result.andThen_ok, he]
    cases hb : eqL ((xs.drop (k * l.length)).take l.length) ((ys.drop (k * l.length)).take l.length) with
    | false => simp
    | true =>
      simp only [Bool.not_true, Bool.false_eq_true, if_false, Sem.run_pure, Result.andThen_ok, Bool.true_and]
      exact ih
theorem sorts_run : ∀ (d : Nat) (t : TypeId) (l : List Sort1), sorts P d t = some l → ∀ D, d ≤ D → ∀ xs ys, areSorts l xs = true → areSorts l ys = true → ∀ w, (Op.equalIn D t (mkV P t xs) (mkV P t ys)).run P w = .ok (eqL xs ys) w
  | 0, t, l, h, D, hD, xs, ys, hx, hy, w => by simp [sorts] at h
  | d + 1, t, l, h, D, hD, xs, ys, hx, hy, w => by
    obtain ⟨D, rfl⟩ : ∃ k, D = k + 1 := ⟨D - 1, by omega⟩
    have hs := h
    unfold sorts at h
    split at h
    · rename_i k hu
      simp at h
      obtain ⟨hone, rfl⟩ := h
      have hsc : isSc P t = true := by simp [isSc, hu]
      obtain ⟨x, rfl⟩ := List.length_eq_one_iff.1 (areSorts_length hx)
      obtain ⟨y, rfl⟩ := List.length_eq_one_iff.1 (areSorts_length hy)
      · cases x <;> simp [areSorts, isSort] at hx
        cases y <;> simp [areSorts, isSort] at hy
        subst hx hy
        simp only [mkV, hsc, if_true, List.headD]
        rw [run_equalIn_int w D t _ _ _ _ hu]
        simp only [eqL, eqV, Bool.and_true]
        rfl
    · rename_i hu
      simp at h
      obtain ⟨hone, rfl⟩ := h
      have hsc : isSc P t = true := by simp [isSc, hu]
      obtain ⟨x, rfl⟩ := List.length_eq_one_iff.1 (areSorts_length hx)
      obtain ⟨y, rfl⟩ := List.length_eq_one_iff.1 (areSorts_length hy)
      · cases x <;> simp [areSorts, isSort] at hx
        cases y <;> simp [areSorts, isSort] at hy
        simp only [mkV, hsc, if_true, List.headD]
        rw [run_equalIn_bool' w D t _ _ hu]
        simp only [eqL, eqV, Bool.and_true]
        rfl
    · rename_i hu
      simp at h
      obtain ⟨hone, rfl⟩ := h
      have hsc : isSc P t = true := by simp [isSc, hu]
      obtain ⟨x, rfl⟩ := List.length_eq_one_iff.1 (areSorts_length hx)
      obtain ⟨y, rfl⟩ := List.length_eq_one_iff.1 (areSorts_length hy)
      · cases x <;> simp [areSorts, isSort] at hx
        cases y <;> simp [areSorts, isSort] at hy
        simp only [mkV, hsc, if_true, List.headD]
        rw [run_equalIn_string w D t _ _ hu, byteArray_beq]
        simp only [eqL, eqV, Bool.and_true]
    · rename_i fs hu
      split at h
      · rename_i l' i h1 h2 h3
        split at h
        · rename_i hsz
          simp at h
          subst h
          have hsc : isSc P t = false := by simp [isSc, hu]
          have hfo : P.fieldsOf t = fs := by simp [Program.fieldsOf, hu]
          simp only [mkV, hsc, Bool.false_eq_true, if_false]
          rw [run_equalIn_struct w D t _ _ (by rw [hfo]; exact hu) (by simpa using h1), hfo]
          have := eqFields_run d (D := D) (fun t l ht xs ys hx hy w => sorts_run d t l ht D (by omega) xs ys hx hy w) fs.toList 0 l' h2 xs ys (by simpa using hx) (by simpa using hy) (by omega) (by omega) w
          simpa using this
        · cases h
      · cases h
    · rename_i len el hu
      split at h
      · rename_i l' i j h1 h2 h3
        split at h
        · rename_i hsz
          simp at h
          subst h
          have hsc : isSc P t = false := by simp [isSc, hu]
          simp only [mkV, hsc, Bool.false_eq_true, if_false]
          have key := eqArr_run (len := len) (w := w) (fun xs ys hx hy => sorts_run d el l' h1 D (by omega) xs ys hx hy w) h1 len 0 xs ys (by omega) (by simpa using hx) (by simpa using hy) (by omega) (by omega)
          have hsize : (sizeOf el).run P w = .ok l'.length w := by simp [sizeOf, typeInfo, h2, hsz.1]
          simp only [Op.equalIn, Sem.run_bind, run_underlying hu, Result.andThen_ok, hsize, Std.Legacy.Range.forIn_eq_forIn_range', Std.Legacy.Range.size]
          simp only [Nat.sub_zero, Nat.add_sub_cancel, Nat.div_one] at key ⊢
          simp only [Nat.zero_mul, List.drop_zero] at key
          rw [key]
          cases eqL xs ys <;> rfl
        · cases h
      · cases h
    · cases h
theorem mkV_ag {d : Nat} {t : TypeId} {l : List Sort1} (h : sorts P d t = some l) (hag : isAg P t l.length = true) (cs : List Value) : mkV P t cs = .agg cs.toArray := by
  have : isSc P t = false := by
    unfold isAg at hag
    unfold isSc
    simp only [Bool.and_eq_true] at hag
    have h1 := hag.1
    split at h1 <;> simp_all
  simp [mkV, this]
theorem equal_ag {t : TypeId} {l : List Sort1} (h : sorts P 20 t = some l) (hag : isAg P t l.length = true) {xs ys : List Value} (hx : areSorts l xs = true) (hy : areSorts l ys = true) (w : World) : (Op.equal t (.agg xs.toArray) (.agg ys.toArray)).run P w = .ok (eqL xs ys) w := by
  have := sorts_run 20 t l h Op.maxDepth (by simp [Op.maxDepth]) xs ys hx hy w
  rwa [mkV_ag h hag, mkV_ag h hag] at this
variable {w0 : World} {Cs H : List Chunk} {e : Env} {ty tx ty' : TypeId} {x y : Operand}
theorem Ev.eqAg {l : List Sort1} {xs ys : List Value} (h : sorts P 20 tx = some l) (hag : isAg P tx l.length = true) (hgd : P.eqGuardType P.depth tx = false) (hx : Look e x (.agg xs.toArray) := by repeat (first | exact Look.here | apply Look.there (hne := rfl) | exact Look.const | apply Look.mix rfl | exact Look.arg0 | apply Look.args | exact Look.func)) (hy : Look e y (.agg ys.toArray) := by repeat (first | exact Look.here | apply Look.there (hne := rfl) | exact Look.const | apply Look.mix rfl | exact Look.arg0 | apply Look.args | exact Look.func))
    (sx : areSorts l xs = true := by rfl) (sy : areSorts l ys = true := by rfl) : Ev P w0 Cs H e (.binOp .eql tx x y ty') ty (.bool (eqL xs ys)) := by
  intro w _ d pos af g
  replace hx := hx.eq
  replace hy := hy.eq
  simp only [execOp, hx, hy, Sem.run_bind, run_eqGuard_agg w _ _ _ _ _ _ hgd, Result.andThen_ok, binOp]
  have := equal_ag h hag sx sy w
  simp only [Sem.run_bind, this, Result.andThen_ok, Sem.run_pure]
theorem Ev.neAg {l : List Sort1} {xs ys : List Value} (h : sorts P 20 tx = some l) (hag : isAg P tx l.length = true) (hgd : P.eqGuardType P.depth tx = false) (hx : Look e x (.agg xs.toArray) := by repeat (first | exact Look.here | apply Look.there (hne := rfl) | exact Look.const | apply Look.mix rfl | exact Look.arg0 | apply Look.args | exact Look.func)) (hy : Look e y (.agg ys.toArray) := by repeat (first | exact Look.here | apply Look.there (hne := rfl) | exact Look.const | apply Look.mix rfl | exact Look.arg0 | apply Look.args | exact Look.func))
    (sx : areSorts l xs = true := by rfl) (sy : areSorts l ys = true := by rfl) : Ev P w0 Cs H e (.binOp .neq tx x y ty') ty (.bool (!(eqL xs ys))) := by
  intro w _ d pos af g
  replace hx := hx.eq
  replace hy := hy.eq
  simp only [execOp, hx, hy, Sem.run_bind, run_eqGuard_agg w _ _ _ _ _ _ hgd, Result.andThen_ok, binOp]
  have := equal_ag h hag sx sy w
  simp only [Sem.run_bind, this, Result.andThen_ok, Sem.run_pure]
end
end Go.Rx
/- The rule layer, ninth part: a region that draws its order, some of whose operations make memory: what only computes or reads (calls too) is taken first, wherever it stands; of the others one alone, or either of two, may come up at a time. -/
namespace Go.Rx
open Go Go.RowKit
set_option linter.unusedVariables false
set_option linter.unusedSimpArgs false
theorem upon_change {P : Program} {o : Oper} {a : Act} {next next' : Act → World → Prop} {Q Q' : Exit → Act → World → Prop} {r : Result Next} (hQ : ∀ x a w, Q x a w → x = .normal) (hn : ∀ a w, next a w → next' a w) (h : o.upon P a next Q r) : o.upon P a next' Q' r := by
  have hout : ¬ LetsOut Q := by
    rintro ⟨a, w, hq⟩
    have := hQ _ _ _ hq
    cases this
  cases r with
  | ok nx w' =>
    cases nx <;> simp only [Oper.upon] at h ⊢ <;> first | exact hn _ _ h | exact h | skip
    · refine h.mono ?_
      intro en w'' hen
      cases en with
      | returned v => exact hn _ _ hen
      | panicked c => have := hQ _ _ _ hen; cases this
      | outgrown => exact absurd hen hout
    · exact h.mono fun v w' hv => hn _ _ hv
  | halt x w' =>
    cases x <;> simp only [Oper.upon] at h ⊢ <;> try exact h
    have := hQ _ _ _ h
    cases this
def Q0 : Exit → Act → World → Prop := fun _ _ _ => False
theorem Q0_out : ¬ LetsOut Q0 := fun ⟨_, _, h⟩ => h
def quietRes (P : Program) (w : World) (v : Value) : Result Next → Prop
  | .ok (.value u) w' => u = v ∧ w' = w
  | .ok (.enter f args) w' => w' = w ∧ Calls P f args w fun e w'' => e = .returned v ∧ Upd w w'' [] []
  | _ => False
section
variable (P : Program) (n : Nat) (ops : Array Oper) (w0 : World) (Cs H0 : List Chunk) (K : Env → List Chunk → Prop)
def QA (o : Oper) (v : Value) (a : Act) : Prop :=
  (Region.wanted o (yielded ops a.tmps) = true ∧ ∀ w, Upd w0 w Cs H0 → quietRes P w v ((execOp a.eval o).run P w)) ∨ (Region.wanted o (yielded ops a.tmps) = false ∧ v = undef)
def AnyW : Nat → Array Bool → List Chunk → Env → Prop
  | 0, listed, H, e => Region.ready .any ops listed = [] ∧ K e H
  | f + 1, listed, H, e => (Region.ready .any ops listed = [] → K e H) ∧ ∀ i ∈ Region.ready .any ops listed, ∀ a w, Fits n e a → Upd w0 w Cs H →
      wpOp P ops Q0 i (fun a' w' => ∃ e' H', Fits n e' a' ∧ Upd w0 w' Cs H' ∧ Part H0 H' ∧ AnyW f (listed.setIfInBounds i true) H' e') a w
end
def Any (P : Program) (n : Nat) (ops : Array Oper) (w0 : World) (Cs H0 : List Chunk) (fuel : Nat) (listed : Array Bool) (H : List Chunk) (e : Env) (K : Env → List Chunk → Prop) : Prop :=
  Part H0 H → AnyW P n ops w0 Cs H0 K fuel listed H e
section
variable {P : Program} {n : Nat} {ops : Array Oper} {w0 : World} {Cs H0 H : List Chunk} {e : Env} {K : Env → List Chunk → Prop} {fuel : Nat} {listed : Array Bool}
  {t : Nat} {op : Op} {ty : TypeId} {pos : String} {af : Array Edge} {v : Value}
theorem QA.of_same {o : Oper} {a a' : Act} (hy : QA P ops w0 Cs H0 o v a) (he : execOp a'.eval o = execOp a.eval o) (hw : Region.wanted o (yielded ops a'.tmps) = Region.wanted o (yielded ops a.tmps)) : QA P ops w0 Cs H0 o v a' := by
  unfold QA at *
  rw [he, hw]
  exact hy
theorem QA.wpOp {i : Nat} {o : Oper} {a : Act} (hi : ops[i]? = some o) (hy : QA P ops w0 Cs H0 o v a) {w : World} (hS : Upd w0 w Cs H0) {k : Act → World → Prop} (h : ∀ w', Upd w w' [] [] → k (a.put o.dst v) w') : wpOp P ops Q0 i k a w := by
  unfold Go.wpOp
  simp only [hi]
  rcases hy with ⟨hw, hv⟩ | ⟨hw, rfl⟩
  · simp only [hw, if_true]
    refine .inl ?_
    unfold Oper.wp
    have hq := hv w hS
    generalize (execOp a.eval o).run P w = r at hq
    cases r with
    | ok nx w' =>
      cases nx <;> simp only [quietRes] at hq <;> simp only [Oper.upon]
      · obtain ⟨rfl, rfl⟩ := hq
        exact h _ (Upd.refl0 _)
      · obtain ⟨rfl, hc⟩ := hq
        refine hc.mono ?_
        rintro en w'' ⟨rfl, hu⟩
        exact h _ hu
    | halt x w' => exact hq.elim
  · simp only [hw, Bool.false_eq_true, if_false]
    exact h _ (Upd.refl0 _)
theorem wpOp_putQ {j : Nat} {oi oj : Oper} (hj : ops[j]? = some oj) (hap : oi.apart ops oj = true) (hsi : ∀ cs b, oi.op ≠ .select cs b) (hsj : ∀ cs b, oj.op ≠ .select cs b)
    {k : Act → World → Prop} {a : Act} {w : World} (hy : QA P ops w0 Cs H0 oi v a) (h : wpOp P ops Q0 j k (a.put oi.dst v) w) :
    wpOp P ops Q0 j (fun a' w' => QA P ops w0 Cs H0 oi v a' ∧ k (a'.put oi.dst v) w') a w := by
  obtain ⟨h1, h2, h3⟩ := Oper.apart_spec hap
  have keep : ∀ (a : Act), QA P ops w0 Cs H0 oi v a → ∀ u, QA P ops w0 Cs H0 oi v (a.put oj.dst u) := fun a hy u =>
    hy.of_same (execOp_put oi hsi a oj.dst u h3) (wanted_put oi a oj.dst u h3)
  have keepD : ∀ d, QA P ops w0 Cs H0 oi v { a with defers := d :: a.defers } := fun d => hy.of_same rfl rfl
  unfold wpOp at *
  simp only [hj] at *
  rw [wanted_put oj a oi.dst v h1] at h
  split
  · rename_i hw
    simp only [hw, if_true] at h
    rcases h with h | ⟨_, hlets⟩
    case inr => exact absurd hlets Q0_out
    refine .inl ?_
    unfold Oper.wp at *
    rw [execOp_put oj hsj a oi.dst v h1] at h
    generalize (execOp a.eval oj).run P w = r at *
    cases r with
    | ok n w' =>
      cases n <;> simp only [Oper.upon] at h ⊢
      case value u => exact ⟨keep a hy u, by rw [← Act.put_comm a v u h2]; exact h⟩
      case skip => exact ⟨keep a hy _, by rw [← Act.put_comm a v undef h2]; exact h⟩
      case defer d =>
        refine ⟨keep _ (keepD d) _, ?_⟩
        rw [← Act.put_comm _ v undef h2, ← Act.put_defers]
        exact h
      case enter f args =>
        refine Calls.mono h fun e w'' he => ?_
        cases e with
        | returned u => exact ⟨keep a hy u, by rw [← Act.put_comm a v u h2]; exact he⟩
        | panicked c => exact he.elim
        | outgrown => exact absurd he Q0_out
      case row row args => exact Rows.mono h fun u w'' he => ⟨keep a hy u, by rw [← Act.put_comm a v u h2]; exact he⟩
    | halt x w' =>
      cases x <;> simp only [Oper.upon] at h ⊢
      case panic u => exact h.elim
  · rename_i hw
    simp only [hw] at h
    exact ⟨keep a hy _, by rw [← Act.put_comm a v undef h2]; exact h⟩
theorem Fits.same {e : Env} {a b : Act} (ha : Fits n e a) (hb : Fits n e b) : a.tmps = b.tmps := by
  apply Array.ext
  · rw [ha.size, hb.size]
  · intro j h1 h2
    have e1 := ha.at_ j
    have e2 := hb.at_ j
    simp [h1] at e1
    simp [h2] at e2
    rw [e1, e2]
theorem Upd.grow {w w' : World} (hw : Upd w0 w Cs H) (hu : Upd w w' [] []) : Upd w0 w' Cs H := Upd.step (Gs := []) (H' := []) hw hu
theorem Upd.draws {w : World} {H0 : List Chunk} (hw : Upd w0 w Cs H) (hp : Part H0 H) : Upd w0 w Cs H0 := hw.part hp
theorem AnyW.first {i : Nat} {oi : Oper} (hi : ops[i]? = some oi) (hd : oi.dst = some t) (ht : Nat.blt t n = true) (hsel : ∀ (j : Nat) (o : Oper) cs b, ops[j]? = some o → o.op ≠ .select cs b) :
    ∀ (fuel : Nat) (listed : Array Bool) (H : List Chunk) (e : Env),
      (∀ j oj, ops[j]? = some oj → j ≠ i → listed.getD j true = false → (∀ e ∈ oj.after, Region.binds .any e = true → e.on ≠ i) → oi.apart ops oj = true) →
      i ∈ Region.ready .any ops listed → (∀ a, Fits n e a → QA P ops w0 Cs H0 oi v a) → Part H0 H →
      AnyW P n ops w0 Cs H0 K fuel (listed.setIfInBounds i true) H (upd e t v) → AnyW P n ops w0 Cs H0 K (fuel + 1) listed H e := by
  intro fuel
  induction fuel with
  | zero =>
    intro listed H e _ hr hy hp h
    refine ⟨fun h0 => (by rw [h0] at hr; cases hr), fun j hj a w hf hw => ?_⟩
    by_cases hji : j = i
    · subst hji
      refine (hy a hf).wpOp hi (hw.part hp) fun w' hu => ?_
      rw [hd]
      exact ⟨_, H, hf.put ht v, hw.grow hu, hp, h⟩
    · have := ready_mono hj hji
      rw [h.1] at this
      cases this
  | succ fuel ih =>
    intro listed H e hfree hr hy hp h
    refine ⟨fun h0 => (by rw [h0] at hr; cases hr), fun j hj a w hf hw => ?_⟩
    by_cases hji : j = i
    · subst hji
      refine (hy a hf).wpOp hi (hw.part hp) fun w' hu => ?_
      rw [hd]
      exact ⟨_, H, hf.put ht v, hw.grow hu, hp, h⟩
    · have h1 := h.2 j (ready_mono hj hji) _ w (hf.put ht v) hw
      obtain ⟨hjun, oj, hoj, hall⟩ := mem_ready.1 hj
      have hnot : ∀ e ∈ oj.after, Region.binds .any e = true → e.on ≠ i := fun e he hb heq => by
        have h1 := hall e he hb
        have h0 := (mem_ready.1 hr).1
        rw [heq] at h1
        rcases Nat.lt_or_ge i listed.size with h' | h'
        · simp [h'] at h0 h1; rw [h0] at h1; cases h1
        · simp [Array.getElem?_eq_none h'] at h1
      have h2 := wpOp_putQ (v := v) hoj (hfree j oj hoj hji hjun hnot) (fun cs b => hsel i oi cs b hi) (fun cs b => hsel j oj cs b hoj) (hy a hf) (by rw [hd]; exact h1)
      have hfree' : ∀ k ok, ops[k]? = some ok → k ≠ i → (listed.setIfInBounds j true).getD k true = false →
          (∀ e ∈ ok.after, Region.binds .any e = true → e.on ≠ i) → oi.apart ops ok = true := fun k ok hk hki hun hno => by
        refine hfree k ok hk hki ?_ hno
        by_cases hjk : j = k
        · subst hjk; exact hjun
        · rw [getD_set_ne true hjk] at hun; exact hun
      refine wpOp_mono ?_ h2
      rintro a' w' ⟨hq, e', H', hf', hw', hp', hk'⟩
      rw [hd] at hf'
      have hsz : a'.tmps.size = n := by have := hf'.size; simpa [Act.put] using this
      have hf2 : Fits n (fun k => a'.tmps.getD k undef) a' := ⟨hsz, fun _ => rfl, by have := hf'.defers; simpa [Act.put] using this⟩
      have he : e' = upd (fun k => a'.tmps.getD k undef) t v := by
        funext k
        rw [← hf'.at_ k, ← (hf2.put ht v).at_ k]
      refine ⟨_, H', hf2, hw', hp', ih (listed.setIfInBounds j true) H' _ hfree' (ready_mono hr (Ne.symm hji)) ?_ hp' ?_⟩
      · intro b hb
        refine hq.of_same ?_ ?_
        · rw [hb.eval, hf2.eval]
        · rw [hb.same hf2]
      · rw [Array.setIfInBounds_comm _ _ hji, ← he]
        exact hk'
theorem AnyW.take (i : Nat) {oi : Oper} (hi : ops[i]? = some oi) (hd : oi.dst = some t) (ht : Nat.blt t n = true) (hs : Region.noSelect ops = true) (hfr : Region.free .any ops listed i = true) (hr : (Region.ready .any ops listed).contains i = true)
    (hq : ∀ a, Fits n e a → QA P ops w0 Cs H0 oi v a) (k : Any P n ops w0 Cs H0 fuel (listed.setIfInBounds i true) H (upd e t v) K) : Any P n ops w0 Cs H0 (fuel + 1) listed H e K :=
  fun hp => AnyW.first hi hd ht (Region.noSelect_spec hs) fuel listed H e (Region.free_spec hi hfr) (by simpa using hr) hq hp (k hp)
theorem Any.done (hr : Region.ready .any ops listed = []) (h : K e H) : Any P n ops w0 Cs H0 fuel listed H e K := by
  intro _
  cases fuel with
  | zero => exact ⟨hr, h⟩
  | succ f => exact ⟨fun _ => h, by rw [hr]; simp⟩
theorem Any.p (i : Nat) (hi : ops[i]? = some ⟨some t, op, ty, pos, af, none⟩) (hs : Region.noSelect ops = true) (hfr : Region.free .any ops listed i = true) (hr : (Region.ready .any ops listed).contains i = true)
    (ht : Nat.blt t n = true) (h : Ev P w0 Cs H0 e op ty v) (k : Any P n ops w0 Cs H0 fuel (listed.setIfInBounds i true) H (upd e t v) K) : Any P n ops w0 Cs H0 (fuel + 1) listed H e K := by
  refine AnyW.take i hi rfl ht hs hfr hr (fun a hf => .inl ⟨wanted_none rfl _, fun w hw => ?_⟩) k
  rw [hf.eval, h w hw]
  exact ⟨rfl, rfl⟩
theorem Any.gy (i : Nat) {g : Nat × Bool} {d : Nat} (hi : ops[i]? = some ⟨some t, op, ty, pos, af, some g⟩) (hs : Region.noSelect ops = true) (hfr : Region.free .any ops listed i = true) (hr : (Region.ready .any ops listed).contains i = true)
    (hd : (ops[g.1]?).bind (·.dst) = some d) (hn : Nat.blt d n = true) (hg : e d = .bool g.2)
    (ht : Nat.blt t n = true) (h : Ev P w0 Cs H0 e op ty v) (k : Any P n ops w0 Cs H0 fuel (listed.setIfInBounds i true) H (upd e t v) K) : Any P n ops w0 Cs H0 (fuel + 1) listed H e K := by
  refine AnyW.take i hi rfl ht hs hfr hr (fun a hf => .inl ⟨by simp [Region.wanted, hf.yielded hd hg hn], fun w hw => ?_⟩) k
  rw [hf.eval, h w hw]
  exact ⟨rfl, rfl⟩
theorem Any.gn (i : Nat) {g : Nat × Bool} {d : Nat} (hi : ops[i]? = some ⟨some t, op, ty, pos, af, some g⟩) (hs : Region.noSelect ops = true) (hfr : Region.free .any ops listed i = true) (hr : (Region.ready .any ops listed).contains i = true)
    (hd : (ops[g.1]?).bind (·.dst) = some d) (hn : Nat.blt d n = true) (hg : e d = .bool (!g.2))
    (ht : Nat.blt t n = true) (k : Any P n ops w0 Cs H0 fuel (listed.setIfInBounds i true) H (upd e t undef) K) : Any P n ops w0 Cs H0 (fuel + 1) listed H e K :=
  AnyW.take i hi rfl ht hs hfr hr (fun a hf => .inr ⟨by simp [Region.wanted, hf.yielded hd hg hn], rfl⟩) k
theorem Any.gu (i : Nat) {g : Nat × Bool} {d : Nat} (hi : ops[i]? = some ⟨some t, op, ty, pos, af, some g⟩) (hs : Region.noSelect ops = true) (hfr : Region.free .any ops listed i = true) (hr : (Region.ready .any ops listed).contains i = true)
    (hd : (ops[g.1]?).bind (·.dst) = some d) (hg : e d = undef)
    (ht : Nat.blt t n = true) (k : Any P n ops w0 Cs H0 fuel (listed.setIfInBounds i true) H (upd e t undef) K) : Any P n ops w0 Cs H0 (fuel + 1) listed H e K :=
  AnyW.take i hi rfl ht hs hfr hr (fun a hf => .inr ⟨by simp [Region.wanted, yielded_undef (ops := ops) hf hd hg], rfl⟩) k
theorem quiet_call {f : FuncId} {as : List Operand} {ats : Array TypeId} {g : Option (Nat × Bool)} (hs : ∀ w, Upd w0 w Cs H0 → Spec P f (as.map (ev e)).toArray w [] (fun u _ => u = v)) {a : Act} (hf : Fits n e a) {w : World} (hw : Upd w0 w Cs H0) :
    quietRes P w v ((execOp a.eval ⟨some t, .call ⟨.value (.func f), as.toArray, ats⟩, ty, pos, af, g⟩).run P w) := by
  obtain ⟨hent, hc⟩ := hs w hw
  rw [hf.eval, run_enter hent (ev e) (.func f) #[] #[] rfl]
  refine ⟨rfl, ?_⟩
  simp only [Array.append_empty, Array.empty_append]
  refine hc.mono ?_
  rintro en w' ⟨u, H', rfl, hu, rfl⟩
  exact ⟨rfl, hu.part (Part.nil _)⟩
theorem Any.call (i : Nat) {f : FuncId} {as : List Operand} {ats : Array TypeId} (hi : ops[i]? = some ⟨some t, .call ⟨.value (.func f), as.toArray, ats⟩, ty, pos, af, none⟩) (hs : Region.noSelect ops = true) (hfr : Region.free .any ops listed i = true) (hr : (Region.ready .any ops listed).contains i = true)
    (ht : Nat.blt t n = true) (h : ∀ w, Upd w0 w Cs H0 → Spec P f (as.map (ev e)).toArray w [] (fun u _ => u = v)) (k : Any P n ops w0 Cs H0 fuel (listed.setIfInBounds i true) H (upd e t v) K) : Any P n ops w0 Cs H0 (fuel + 1) listed H e K :=
  AnyW.take i hi rfl ht hs hfr hr (fun a hf => .inl ⟨wanted_none rfl _, fun w hw => quiet_call h hf hw⟩) k
theorem wpOp_of_wpList {Q Q' : Exit → Act → World → Prop} {i : Nat} {o : Oper} (hi : ops[i]? = some o) (hQ : ∀ x a w, Q x a w → x = .normal) {a : Act} {w : World} (h : wpList P ops Q [o] a w) : wpOp P ops Q' i (Q .normal) a w := by
  unfold wpOp
  rw [hi]
  simp only [wpList] at h
  simp only
  have hout : ¬ LetsOut Q := by
    rintro ⟨a, w, hq⟩
    have := hQ _ _ _ hq
    cases this
  split
  · rename_i hw
    rw [if_pos hw] at h
    rcases h with h | h
    · exact .inl (upon_change hQ (fun _ _ h => h) h)
    · exact absurd h.2 hout
  · rename_i hw
    rw [if_neg hw] at h
    exact h
theorem AnyW.at_ {m : Nat} {o : Oper} (hm : ops[m]? = some o) (h : Seq P n ops w0 Cs [o] H e (fun e' H' => Part H0 H' ∧ Any P n ops w0 Cs H0 fuel (listed.setIfInBounds m true) H' e' K)) {a : Act} {w : World} (hf : Fits n e a) (hw : Upd w0 w Cs H) :
    wpOp P ops Q0 m (fun a' w' => ∃ e' H', Fits n e' a' ∧ Upd w0 w' Cs H' ∧ Part H0 H' ∧ AnyW P n ops w0 Cs H0 K fuel (listed.setIfInBounds m true) H' e') a w := by
  have h3 := wpOp_of_wpList (Q' := Q0) hm (fun x a w h => h.1) (h a w hf hw)
  refine wpOp_mono ?_ h3
  rintro a' w' ⟨_, e', H', h4, h5, h6, h7⟩
  exact ⟨e', H', h4, h5, h6, h7 h6⟩
theorem Any.one (i : Nat) {o : Oper} (hi : ops[i]? = some o) (hr : Region.ready .any ops listed = [i])
    (h : Seq P n ops w0 Cs [o] H e (fun e' H' => Part H0 H' ∧ Any P n ops w0 Cs H0 fuel (listed.setIfInBounds i true) H' e' K)) : Any P n ops w0 Cs H0 (fuel + 1) listed H e K := by
  intro hp
  refine ⟨fun h0 => (by rw [hr] at h0; cases h0), fun j hj a w hf hw => ?_⟩
  rw [hr] at hj
  have hj' : j = i := by simpa using hj
  subst hj'
  exact AnyW.at_ hi h hf hw
theorem Any.two (i j : Nat) {o o' : Oper} (hi : ops[i]? = some o) (hj : ops[j]? = some o') (hr : Region.ready .any ops listed = [i, j])
    (h : Seq P n ops w0 Cs [o] H e (fun e' H' => Part H0 H' ∧ Any P n ops w0 Cs H0 fuel (listed.setIfInBounds i true) H' e' K))
    (h' : Seq P n ops w0 Cs [o'] H e (fun e' H' => Part H0 H' ∧ Any P n ops w0 Cs H0 fuel (listed.setIfInBounds j true) H' e' K)) : Any P n ops w0 Cs H0 (fuel + 1) listed H e K := by
  intro hp
  refine ⟨fun h0 => (by rw [hr] at h0; cases h0), fun m hm a w hf hw => ?_⟩
  rw [hr] at hm
  have hm' : m = i ∨ m = j := by simpa using hm
  rcases hm' with rfl | rfl
  · exact AnyW.at_ hi h hf hw
  · exact AnyW.at_ hj h' hf hw
theorem AnyW.wp : ∀ (fuel : Nat) (listed : Array Bool) (H : List Chunk) (e : Env), AnyW P n ops w0 Cs H0 K fuel listed H e → ∀ a w, Fits n e a → Upd w0 w Cs H →
    wpAny P .any ops (fun x a' w' => x = .normal ∧ ∃ e' H', Fits n e' a' ∧ Upd w0 w' Cs H' ∧ K e' H') fuel listed a w
  | 0, listed, H, e, h, a, w, hf, hw => ⟨h.1, rfl, e, H, hf, hw, h.2⟩
  | f + 1, listed, H, e, h, a, w, hf, hw => by
    refine ⟨fun h0 => ⟨rfl, e, H, hf, hw, h.1 h0⟩, fun i hi => ?_⟩
    have h2 := h.2 i hi a w hf hw
    have h3 : wpOp P ops Q0 i (wpAny P .any ops (fun x a' w' => x = .normal ∧ ∃ e' H', Fits n e' a' ∧ Upd w0 w' Cs H' ∧ K e' H') f (listed.setIfInBounds i true)) a w := by
      refine wpOp_mono ?_ h2
      rintro a' w' ⟨e', H', h4, h5, _, h7⟩
      exact AnyW.wp f _ H' e' h7 a' w' h4 h5
    unfold wpOp at h3 ⊢
    cases ho : ops[i]? with
    | none =>
      rw [ho] at h3
      exact h3
    | some o =>
      rw [ho] at h3
      simp only at h3 ⊢
      split
      · rename_i hwt
        rw [if_pos hwt] at h3
        rcases h3 with h3 | ⟨_, h3⟩
        · exact .inl (upon_change (fun _ _ _ h => h.elim) (fun _ _ h => h) h3)
        · exact absurd h3 Q0_out
      · rename_i hwt
        rw [if_neg hwt] at h3
        exact h3
theorem JC.anyP {id : Nat} {l : List Oper} {Q : Exit → Env → List Chunk → Prop} (hm : P.follows .mixedOrders = true) (hp : Part H0 H) (h : Any P n l.toArray w0 Cs H0 l.toArray.size (Array.replicate l.toArray.size false) H e (fun e' H' => Q .normal e' H')) :
    JC P n w0 Cs (.region id l.toArray true) H e Q := by
  intro a w hf hw
  refine wp_mono (wp_region_any hm ((h hp).wp _ _ _ _ a _ hf hw.drawn)) ?_
  rintro ex a' w' ⟨rfl, e', H', h1, h2, h3⟩
  exact ⟨e', H', h1, h2, h3⟩
theorem part_erase (i : Nat) : Part (H.eraseIdx i) H := by
  by_cases hi : i < H.length
  · exact ⟨[H[i]], List.perm_append_comm.trans (At.perm (c := H[i]) ⟨by simp [hi]⟩)⟩
  · rw [List.eraseIdx_of_length_le (by omega)]
    exact Part.refl _
theorem JC.any {id : Nat} {l : List Oper} {Q : Exit → Env → List Chunk → Prop} (hm : P.follows .mixedOrders = true) (h : Any P n l.toArray w0 Cs H l.toArray.size (Array.replicate l.toArray.size false) H e (fun e' H' => Q .normal e' H')) :
    JC P n w0 Cs (.region id l.toArray true) H e Q := JC.anyP hm (Part.refl _) h
theorem JC.as {id : Nat} {l : List Oper} {y : Code} {Q : Exit → Env → List Chunk → Prop} (hm : P.follows .mixedOrders = true) (h : Any P n l.toArray w0 Cs H l.toArray.size (Array.replicate l.toArray.size false) H e (fun e' H' => JC P n w0 Cs y H' e' Q)) :
    JC P n w0 Cs (.seq (.region id l.toArray true) y) H e Q := JC.seq (JC.any hm h)
theorem JC.asE {id : Nat} {l : List Oper} {y : Code} {Q : Exit → Env → List Chunk → Prop} (i : Nat) (hm : P.follows .mixedOrders = true) (h : Any P n l.toArray w0 Cs (H.eraseIdx i) l.toArray.size (Array.replicate l.toArray.size false) H e (fun e' H' => JC P n w0 Cs y H' e' Q)) :
    JC P n w0 Cs (.seq (.region id l.toArray true) y) H e Q := JC.seq (JC.anyP hm (part_erase i) h)
theorem JC.asP {id : Nat} {l : List Oper} {y : Code} {Q : Exit → Env → List Chunk → Prop} (H0 : List Chunk) (hm : P.follows .mixedOrders = true) (hp : Part H0 H) (h : Any P n l.toArray w0 Cs H0 l.toArray.size (Array.replicate l.toArray.size false) H e (fun e' H' => JC P n w0 Cs y H' e' Q)) :
    JC P n w0 Cs (.seq (.region id l.toArray true) y) H e Q := JC.seq (JC.anyP hm hp h)
theorem Any.split {d : Nat} {b : Bool} (hd : Look e (.tmp d) (.bool b) := by repeat (first | exact Look.here | apply Look.there (hne := rfl) | exact Look.const | apply Look.mix rfl | exact Look.arg0 | apply Look.args | exact Look.func)) (k : ∀ c : Bool, b = c → Any P n ops w0 Cs H0 fuel listed H (upd e d (.bool c)) K) : Any P n ops w0 Cs H0 fuel listed H e K := by
  have h := k b rfl
  have he : upd e d (.bool b) = e := by
    funext j
    by_cases hj : j = d
    · subst hj; rw [upd_same]; exact hd.eq.symm
    · rw [upd_ne _ _ hj]
  rwa [he] at h
theorem RAt.up {α : Type} [Inhabited α] {enc : α → List Value} {sz : Nat} {v : Value} {xs : List α} (h : RAt w0 Cs H enc sz v xs) {w : World} (hw : Upd w0 w Cs H) : RSl enc sz w [] v xs := by
  obtain ⟨C, hC⟩ := h w hw
  exact hC.part (Part.nil _)
theorem RSl.empty {α : Type} [Inhabited α] (enc : α → List Value) (sz : Nat) (w : World) (C : List Chunk) : RSl enc sz w C (.slice none 0 0) [] :=
  ⟨⟨none, 0, rfl, Nat.le_refl _, fun _ => rfl⟩, by simp, by simp, fun i hi => by simp at hi⟩
end
end Go.Rx
/- The plain data of the program's package api, as Lean data, and how they lie in cells. -/
namespace Go.Rx
open Go Go.RowKit
set_option linter.unusedVariables false
structure Resting where
  id : Int
  member : Int
  type : Int
  price : Int
  visible : Int
  hidden : Int
  peak : Int
deriving DecidableEq, Inhabited
def Resting.enc (r : Resting) : List Value := [.int .u64 r.id, .int .u32 r.member, .int .i64 r.type, .int .i64 r.price, .int .u64 r.visible, .int .u64 r.hidden, .int .u64 r.peak]
structure Book where
  cap : Int
  meet : Int
  buys : List Resting
  sells : List Resting
  high : Int
  seq : Int
deriving DecidableEq, Inhabited
end Go.Rx
/- From the reading of a call's arguments to the rule layer's data. -/
namespace Go.Rx
open Go Go.RowKit
set_option linter.unusedVariables false
set_option linter.unusedSimpArgs false
def wfV : Value → Bool
  | .int k n => (Lit.int k n).wf
  | .string s => decide (s.size ≤ maxLen)
  | _ => true
theorem areSorts_of_append {l r : List Sort1} {xs ys : List Value} (h1 : areSorts l xs = true) (h2 : areSorts r ys = true) : areSorts (l ++ r) (xs ++ ys) = true := by
  induction l generalizing xs with
  | nil => cases xs with
    | nil => simpa using h2
    | cons x xs => simp [areSorts] at h1
  | cons s l ih => cases xs with
    | nil => simp [areSorts] at h1
    | cons x xs =>
      simp [areSorts] at h1 ⊢
      exact ⟨h1.1, ih h1.2⟩
section
variable {H : Type} {enc : TypeId × Value → H} {P : Program} {w : World} {base : Nat} {spare : Nat → Bool} {held : Bool}
theorem trod_plain : ∀ (d : Nat) (t : TypeId) (l : List Sort1), sorts P d t = some l → ∀ (fuel : Nat) (cs : List Value) (x : DataW H × List MemPlace),
    DataW.trod enc P w base spare held fuel t cs = some x → areSorts l cs = true ∧ cs.all wfV = true
  | 0, t, l, h, fuel, cs, x, hx => by simp [sorts] at h
  | d + 1, t, l, h, fuel, cs, x, hx => by
    have hcl := sorts_cells h
    unfold sorts at h
    split at h
    · rename_i k hu
      simp at h; obtain ⟨hone, rfl⟩ := h
      cases fuel with
      | zero => simp [DataW.trod] at hx
      | succ n =>
        unfold DataW.trod at hx
        rw [hu] at hx
        split at hx <;> simp_all [areSorts, isSort, wfV]
    · rename_i hu
      simp at h; obtain ⟨hone, rfl⟩ := h
      cases fuel with
      | zero => simp [DataW.trod] at hx
      | succ n =>
        unfold DataW.trod at hx
        rw [hu] at hx
        split at hx <;> simp_all [areSorts, isSort, wfV]
    · rename_i hu
      simp at h; obtain ⟨hone, rfl⟩ := h
      cases fuel with
      | zero => simp [DataW.trod] at hx
      | succ n =>
        unfold DataW.trod at hx
        rw [hu] at hx
        split at hx <;> simp_all [areSorts, isSort, wfV]
    · rename_i fs hu
      split at h
      · rename_i l' i h1 h2 h3
        split at h
        · rename_i hsz
          simp at h; subst h
          obtain ⟨xs, n, _, _, hl, hxl, hf⟩ := DataW.trod_struct hu hx
          have key : ∀ (gs : List Field) (off : Nat) (r : List Sort1), sortsF (sorts P d) gs off = some r → (∀ f ∈ gs, ∃ y, DataW.trod enc P w base spare held n f.type ((cs.drop f.offset).take (P.cellsOf f.type)) = some y) → off + r.length ≤ cs.length →
              areSorts r ((cs.drop off).take r.length) = true ∧ ((cs.drop off).take r.length).all wfV = true := by
            intro gs
            induction gs with
            | nil => intro off r hr _ _; simp [sortsF] at hr; subst hr; simp [areSorts]
            | cons f gs ih =>
              intro off r hr hall hle
              unfold sortsF at hr
              split at hr
              · rename_i l1 hc hl1
                split at hr
                · rename_i r1 hr1
                  simp at hr; subst hr
                  simp only [Bool.and_eq_true, decide_eq_true_eq, beq_iff_eq] at hc
                  obtain ⟨y, hy⟩ := hall f (List.mem_cons_self ..)
                  rw [hc.2, sorts_cells hl1] at hy
                  have g1 := trod_plain d f.type l1 hl1 n _ _ hy
                  simp only [List.length_append] at hle
                  have g2 := ih (off + l1.length) r1 hr1 (fun g hg => hall g (List.mem_cons_of_mem _ hg)) (by omega)
                  have e1 : (cs.drop off).take (l1 ++ r1).length = (cs.drop off).take l1.length ++ (cs.drop (off + l1.length)).take r1.length := by
                    rw [List.length_append, List.take_add, List.drop_drop]
                  rw [e1]
                  refine ⟨areSorts_of_append g1.1 g2.1, ?_⟩
                  rw [List.all_append, g1.2, g2.2]
                  rfl
                · cases hr
              · cases hr
          have := key fs.toList 0 l' h2 (fun f hf' => by
            obtain ⟨j, hj, hjf⟩ := List.getElem_of_mem hf'
            have hj' : fs[j]? = some f := by
              have : j < fs.size := by simpa using hj
              simp at hjf
              simp [this, hjf]
            have h5 := hf j f hj'
            have : j < xs.length := by rw [hxl]; simpa using hj
            exact ⟨xs[j], by rw [h5]; simp [this]⟩) (by rw [hl, hcl]; omega)
          have hl2 : cs.length = l'.length := by rw [hl, hcl]
          have e2 : cs.take l'.length = cs := List.take_of_length_le (by omega)
          simpa [e2] using this
        · cases h
      · cases h
    · rename_i len el hu
      split at h
      · rename_i l' i j h1 h2 h3
        split at h
        · rename_i hsz
          simp at h; subst h
          obtain ⟨xs, n, _, _, hl, hxl, hf⟩ := DataW.trod_array hu hx
          have key : ∀ (m k : Nat), k + m = len → areSorts (List.replicate m l').flatten ((cs.drop (k * l'.length)).take (m * l'.length)) = true ∧ ((cs.drop (k * l'.length)).take (m * l'.length)).all wfV = true := by
            intro m
            induction m with
            | zero => intro k hk; simp [areSorts]
            | succ m ih =>
              intro k hk
              have h5 := hf k (by omega)
              rw [sorts_cells h1] at h5
              have : k < xs.length := by omega
              have g1 := trod_plain d el l' h1 n _ xs[k] (by rw [h5]; simp [this])
              have g2 := ih (k + 1) (by omega)
              have e1 : (cs.drop (k * l'.length)).take ((m + 1) * l'.length) = (cs.drop (k * l'.length)).take l'.length ++ (cs.drop ((k + 1) * l'.length)).take (m * l'.length) := by
                have : (m + 1) * l'.length = l'.length + m * l'.length := by rw [Nat.add_mul]; omega
                rw [this, List.take_add, List.drop_drop, Nat.add_mul, Nat.one_mul]
              rw [e1, List.replicate_succ, List.flatten_cons]
              refine ⟨areSorts_of_append g1.1 g2.1, ?_⟩
              rw [List.all_append, g1.2, g2.2]
              rfl
          have := key len 0 (by omega)
          have hl2 : cs.length = len * l'.length := by rw [hl, hcl]; simp
          have e2 : cs.take (len * l'.length) = cs := List.take_of_length_le (by omega)
          simpa [e2] using this
        · cases h
      · cases h
    · cases h
def Light (P : Program) (t : TypeId) (d : DataW H) : Prop := ∀ n ∈ d.weights P t, n ≤ reachBytes
end
end Go.Rx
/- Opening the plain data of the program's package api. -/
namespace Go.Rx
open Go Go.RowKit
set_option linter.unusedVariables false
set_option linter.unusedSimpArgs false
theorem areSorts_cons {s : Sort1} {l : List Sort1} {vs : List Value} (h : areSorts (s :: l) vs = true) : ∃ v r, vs = v :: r ∧ isSort s v = true ∧ areSorts l r = true := by
  cases vs with
  | nil => simp [areSorts] at h
  | cons v r =>
    simp [areSorts] at h
    exact ⟨v, r, rfl, h.1, h.2⟩
theorem areSorts_nil {vs : List Value} (h : areSorts [] vs = true) : vs = [] := by
  cases vs with
  | nil => rfl
  | cons v r => simp [areSorts] at h
theorem isSort_int {k : IntKind} {v : Value} (h : isSort (.int k) v = true) : ∃ n, v = .int k n := by
  cases v <;> simp [isSort] at h
  exact ⟨_, by rw [h]⟩
def numAt (cs : List Value) (i : Nat) : Int := match cs[i]? with | some (.int _ n) => n | _ => 0
def Resting.dec (cs : List Value) : Resting := ⟨numAt cs 0, numAt cs 1, numAt cs 2, numAt cs 3, numAt cs 4, numAt cs 5, numAt cs 6⟩
theorem light_arg {H : Type} {P : Program} {ts : List TypeId} {ds : List (DataW H)} (h : (DataW.weightsEach P ts ds).all (· ≤ reachBytes) = true) {j : Nat} {t : TypeId} {d : DataW H} (ht : ts[j]? = some t) (hd : ds[j]? = some d) : Light P t d := by
  intro n hn
  have := List.all_eq_true.1 h n (DataW.weights_mem_each ht hd n hn)
  simpa using this
end Go.Rx
/- The rule layer: maps of the call's own, exact, as a list of keys and values. -/
namespace Go.Rx
open Go Go.RowKit
set_option linter.unusedVariables false
set_option linter.unusedSimpArgs false
structure KeyEnc {κ : Type} [DecidableEq κ] (d : TypeDesc) (ke : κ → Value) : Prop where
  key : ∀ a, MapKept.IsKey d (ke a)
  same : ∀ a b, Instr.sameNow d (ke a) (ke b) = some (decide (a = b))
theorem intKey (k : IntKind) : KeyEnc (.int k) (Value.int k) :=
  ⟨fun a => rfl, fun a b => by
    simp only [Instr.sameNow, if_true]
    congr 1⟩
section
variable {κ : Type} [DecidableEq κ]
def aget : List (κ × Value) → κ → Option Value
  | [], _ => none
  | (a, v) :: r, k => if k = a then some v else aget r k
def aput : List (κ × Value) → κ → Value → List (κ × Value)
  | [], k, v => [(k, v)]
  | (a, x) :: r, k, v => if k = a then (k, v) :: r else (a, x) :: aput r k v
def mobj (ke : κ → Value) : Nat → List (κ × Value) → List MapEntry
  | _, [] => []
  | j, (a, v) :: r => { key := ke a, val := v, born := j } :: mobj ke (j + 1) r
def afind : List (κ × Value) → κ → Nat → Option (Nat × Value)
  | [], _, _ => none
  | (a, v) :: r, k, i => if k = a then some (i, v) else afind r k (i + 1)
theorem afind_get (as : List (κ × Value)) (k : κ) (i : Nat) : (afind as k i).map (·.2) = aget as k := by
  induction as generalizing i with
  | nil => rfl
  | cons p r ih =>
    obtain ⟨a, v⟩ := p
    simp only [afind, aget]
    split
    · rfl
    · exact ih _
abbrev Chunk.mp (b : Nat) (ke : κ → Value) (as : List (κ × Value)) : Chunk := .blk b (.map (mobj ke 0 as).toArray as.length)
def mapOf (P : Program) (mt kt et : TypeId) (d : TypeDesc) : Prop := P.underlying mt = some (.map kt et) ∧ P.underlying kt = some d
theorem Upd.obj {w : World} {b : Nat} {o o' : Obj} (ho : w.heap[b]? = some o) : Upd w { w with heap := w.heap.setIfInBounds b o' } [.blk b o] [.blk b o'] :=
  Upd.blk ho rfl rfl rfl (by simp) (MapKept.heap_set ho).1 (fun i hi hne => (MapKept.heap_set ho).2 i hi)
variable {P : Program} {n : Nat} {ops : Array Oper} {w0 : World} {Cs H : List Chunk} {e : Env} {K : Env → List Chunk → Prop} {rest : List Oper}
  {t : Nat} {ty : TypeId} {pos : String} {af : Array Edge} {x y u : Operand} {d : TypeDesc} {ke : κ → Value}
omit [DecidableEq κ] in
theorem Seq.mkMap {mt : TypeId} (ke : κ → Value) (ht : Nat.blt t n = true := by rfl)
    (k : ∀ b, Seq P n ops w0 Cs rest (.mp b ke [] :: H) (upd e t (.map (some b))) K) :
    Seq P n ops w0 Cs (⟨some t, .makeMap mt none, ty, pos, af, none⟩ :: rest) H e K := by
  refine Seq.f ht (R := fun v H' => ∃ b, v = .map (some b) ∧ H' = .mp b ke [] :: H) ?_ ?_
  · intro w hw dd pos af g
    refine ⟨_, _, _, .inl ?_, Upd.alloc hw (.map #[] 0), _, rfl, rfl⟩
    simp [execOp, run_makeMap]
  · rintro v H' ⟨b, rfl, rfl⟩
    exact k b
end
/-! ### maps from int to whole numbers -/
def iget : List (Int × Int) → Int → Int
  | [], _ => 0
  | (a, v) :: r, k => if k = a then v else iget r k
def iput : List (Int × Int) → Int → Int → List (Int × Int)
  | [], k, v => [(k, v)]
  | (a, x) :: r, k, v => if k = a then (k, v) :: r else (a, x) :: iput r k v
def vals (kv : IntKind) (as : List (Int × Int)) : List (Int × Value) := as.map fun p => (p.1, .int kv p.2)
abbrev Chunk.mi (b : Nat) (kk kv : IntKind) (as : List (Int × Int)) : Chunk := .mp b (Value.int kk) (vals kv as)
def RMp (kk kv : IntKind) (w : World) (Cs : List Chunk) (v : Value) (as : List (Int × Int)) : Prop :=
  (v = .map none ∧ as = []) ∨ ∃ b, v = .map (some b) ∧ b < w.heap.size ∧ w.heap[b]? = some (.map (mobj (Value.int kk) 0 (vals kv as)).toArray (vals kv as).length) ∧ ∀ c ∈ Cs, ¬ c.fp b
theorem RMp.at_ {kk kv : IntKind} {w0 w : World} {Cs H : List Chunk} {v : Value} {as : List (Int × Int)} (h : RMp kk kv w0 Cs v as) (hw : Upd w0 w Cs H) : RMp kk kv w H v as := by
  rcases h with h | ⟨b, rfl, hb, ho, hc⟩
  · exact .inl h
  · refine .inr ⟨b, rfl, Nat.lt_of_lt_of_le hb hw.size, by rw [hw.keep b hb hc]; exact ho, ?_⟩
    intro c hcm hfp
    rcases hw.fresh c hcm b hfp with ⟨d, hd, hdi⟩ | hge
    · exact hc d hd hdi
    · omega
theorem RMp.part {kk kv : IntKind} {w : World} {H H' : List Chunk} {v : Value} {as : List (Int × Int)} (h : RMp kk kv w H v as) (hp : Part H' H) : RMp kk kv w H' v as := by
  rcases h with h | ⟨b, rfl, hb, ho, hc⟩
  · exact .inl h
  · exact .inr ⟨b, rfl, hb, ho, fun c hm => hc c (hp.mem hm)⟩
theorem RMp.up {kk kv : IntKind} {w0 w : World} {Cs H : List Chunk} {v : Value} {as : List (Int × Int)} (h : RMp kk kv w0 Cs v as) (hw : Upd w0 w Cs H) : RMp kk kv w [] v as := (h.at_ hw).part (Part.nil _)
theorem RMp.nil (kk kv : IntKind) (w : World) (Cs : List Chunk) : RMp kk kv w Cs (.map none) [] := .inl ⟨rfl, rfl⟩
def RM (kk kv : IntKind) (w0 : World) (Cs H : List Chunk) (v : Value) (as : List (Int × Int)) : Prop := ∀ w, Upd w0 w Cs H → RMp kk kv w [] v as
theorem RM.up {kk kv : IntKind} {w0 : World} {Cs H : List Chunk} {v : Value} {as : List (Int × Int)} (h : RM kk kv w0 Cs H v as) {w : World} (hw : Upd w0 w Cs H) : RMp kk kv w [] v as := h w hw
theorem RMp.r {kk kv : IntKind} {w0 : World} {Cs H : List Chunk} {v : Value} {as : List (Int × Int)} (h : RMp kk kv w0 Cs v as) : RM kk kv w0 Cs H v as := fun w hw => h.up hw
theorem RM.own {kk kv : IntKind} {w0 : World} {Cs H : List Chunk} {b i : Nat} {as : List (Int × Int)} (hH : At H i (.mi b kk kv as) := by repeat (first | exact At.z | apply At.s)) : RM kk kv w0 Cs H (.map (some b)) as := by
  intro w hw
  have hb : w.heap[b]? = some (.map (mobj (Value.int kk) 0 (vals kv as)).toArray (vals kv as).length) := hH.ok hw
  exact .inr ⟨b, rfl, (Array.getElem?_eq_some_iff.1 hb).1, hb, by simp⟩
section
variable {P : Program} {n : Nat} {ops : Array Oper} {w0 : World} {Cs H : List Chunk} {e : Env} {K : Env → List Chunk → Prop} {rest : List Oper}
  {t : Nat} {ty : TypeId} {pos : String} {af : Array Edge} {x y u : Operand}
end
end Go.Rx
/- The rule layer: the rules of structs, slice literals and stores once more, over values that are looked up first, so that what is stored stays short. -/
namespace Go.Rx
open Go Go.RowKit
set_option linter.unusedVariables false
set_option linter.unusedSimpArgs false
inductive Looks (e : Env) : List (Nat × Operand) → List (Nat × Value) → Prop
  | nil : Looks e [] []
  | cons {i : Nat} {x : Operand} {v : Value} {l : List (Nat × Operand)} {r : List (Nat × Value)} (h : Look e x v) (t : Looks e l r) : Looks e ((i, x) :: l) ((i, v) :: r)
theorem Looks.eq {e : Env} {l : List (Nat × Operand)} {r : List (Nat × Value)} (h : Looks e l r) : l.map (fun p => (p.1, ev e p.2)) = r := by
  induction h with
  | nil => rfl
  | cons h t ih => rw [List.map_cons, ih, h.eq]
section
variable {P : Program} {n : Nat} {ops : Array Oper} {w0 : World} {Cs H : List Chunk} {e : Env} {K : Env → List Chunk → Prop} {rest : List Oper}
  {t : Nat} {ty : TypeId} {pos : String} {af : Array Edge} {x y : Operand}
theorem Ev.buildN {t : TypeId} {zs : List Value} (cs : List Value) {pl : List (Nat × Nat)} {l : List (Nat × Operand)} {r : List (Nat × Value)} (hpl : fieldPlaces P t = some pl) (hz : zeroOf P t = some (.agg zs.toArray))
    (hl : Looks e l r := by repeat (first | exact Look.here | apply Look.there (hne := rfl) | exact Look.const | apply Look.mix rfl | exact Look.arg0 | apply Look.args | exact Look.func | exact Looks.nil | apply Looks.cons)) (hcs : fillL (pl[·]?) zs r = some cs := by rfl) : Ev P w0 Cs H e (.build t l.toArray) ty (.agg cs.toArray) :=
  Ev.build hpl hz (by rw [hl.eq]; exact hcs)
theorem Seq.buildSlN {ts el : TypeId} {size len : Nat} {z : Value} {zs : List Value} (cs : List Value) {l : List (Nat × Operand)} {r : List (Nat × Value)} (ht : Nat.blt t n = true := by rfl) (hsl : slcOf P ts el size = true) (hz : zeroOf P el = some z) (hzs : cellsL z = zs := by rfl) (hlen : Nat.ble (len * size) 16777216 = true := by rfl)
    (hl : Looks e l r := by repeat (first | exact Look.here | apply Look.there (hne := rfl) | exact Look.const | apply Look.mix rfl | exact Look.arg0 | apply Look.args | exact Look.func | exact Looks.nil | apply Looks.cons))
    (hcs : fillL (fun i => some (i * size, size)) ((List.range (len * size)).map fun q => zs[q % zs.length]!) r = some cs := by rfl)
    (k : ∀ b, Seq P n ops w0 Cs rest (.box b el cs :: H) (upd e t (.slice (some ⟨b, 0, none⟩) len len)) K) :
    Seq P n ops w0 Cs (⟨some t, .buildSlice ts len l.toArray, ty, pos, af, none⟩ :: rest) H e K :=
  Seq.buildSl ht hsl hz hzs hlen (by rw [hl.eq]; exact hcs) k
theorem Seq.storeN {el tb : TypeId} {b off i m : Nat} {cs vs : List Value} {v : Value} (cs' : List Value) (hsz : szOf P el m = true) (hx : Look e x (.pointer (some ⟨b, off, none⟩)) := by repeat (first | exact Look.here | apply Look.there (hne := rfl) | exact Look.const | apply Look.mix rfl | exact Look.arg0 | apply Look.args | exact Look.func)) (hy : Look e y v := by repeat (first | exact Look.here | apply Look.there (hne := rfl) | exact Look.const | apply Look.mix rfl | exact Look.arg0 | apply Look.args | exact Look.func)) (hvs : cellsL v = vs := by rfl) (hm : vs.length = m := by rfl)
    (h1 : (vs.all fun u => u.oneCell') = true := by rfl) (hH : At H i (.box b tb cs) := by repeat (first | exact At.z | apply At.s)) (hfit : Nat.ble (off + vs.length) cs.length = true := by rfl) (hcs : cs.take off ++ vs ++ cs.drop (off + vs.length) = cs' := by rfl)
    (k : Seq P n ops w0 Cs rest (H.set i (.box b tb cs')) e K) :
    Seq P n ops w0 Cs (⟨none, .store el x y, ty, pos, af, none⟩ :: rest) H e K :=
  Seq.storeTo hsz hx hy hvs hm h1 hH (by simpa using hfit) hcs k
theorem Ev.ldBPN {t tb : TypeId} {bk off i n : Nat} {cs : List Value} (ds : List Value) (ht : isAg P t n = true) (hx : Look e x (.pointer (some ⟨bk, off, none⟩)) := by repeat (first | exact Look.here | apply Look.there (hne := rfl) | exact Look.const | apply Look.mix rfl | exact Look.arg0 | apply Look.args | exact Look.func)) (hH : At H i (.box bk tb cs) := by repeat (first | exact At.z | apply At.s)) (hn : (cs.drop off).take n = ds := by rfl) (hl : ds.length = n := by rfl) : Ev P w0 Cs H e (.load t x) ty (.agg ds.toArray) := by
  subst hn
  exact Ev.ldBP ht hx hH hl
end
end Go.Rx
/- The rule layer: literals of many parts: each part is laid in by one pass over the list. -/
namespace Go.Rx
open Go Go.RowKit
set_option linter.unusedVariables false
set_option linter.unusedSimpArgs false
def splice : List Value → Nat → List Value → List Value
  | c :: cs, 0, v :: vs => v :: splice cs 0 vs
  | c :: cs, n + 1, vs => c :: splice cs n vs
  | cs, _, _ => cs
def fillS (place : Nat → Option (Nat × Nat)) (n : Nat) (cs : List Value) : List (Nat × Value) → Option (List Value)
  | [] => some cs
  | (i, v) :: r =>
    match place i with
    | none => none
    | some (off, size) => match Nat.beq (cellsL v).length size, Nat.ble (off + (cellsL v).length) n with
      | true, true => fillS place n (splice cs off (cellsL v)) r
      | _, _ => none
section
variable {P : Program} {n : Nat} {ops : Array Oper} {w0 : World} {Cs H : List Chunk} {e : Env} {K : Env → List Chunk → Prop} {rest : List Oper}
  {t : Nat} {ty : TypeId} {pos : String} {af : Array Edge} {x y : Operand}
end
end Go.Rx
/- The rule layer: the guarded operations of '&&' and '||', taken as one step whose value is one word; some single operations more. -/
namespace Go.Rx
open Go Go.RowKit
set_option linter.unusedVariables false
set_option linter.unusedSimpArgs false
theorem wpList_append {P : Program} {ops : Array Oper} {Q Q' : Exit → Act → World → Prop} (hQ : ∀ x a w, Q x a w → x = .normal) {l2 : List Oper} (h2 : ∀ a w, Q .normal a w → wpList P ops Q' l2 a w) : ∀ (l1 : List Oper) (a : Act) (w : World), wpList P ops Q l1 a w → wpList P ops Q' (l1 ++ l2) a w
  | [], a, w, h => h2 a w h
  | o :: rest, a, w, h => by
    have hout : ¬ LetsOut Q := by
      rintro ⟨a, w, hq⟩
      have := hQ _ _ _ hq
      cases this
    simp only [List.cons_append, wpList] at h ⊢
    split
    · rename_i hw
      rw [if_pos hw] at h
      rcases h with h | h
      · exact .inl (upon_change hQ (fun a w => wpList_append hQ h2 rest a w) h)
      · exact absurd h.2 hout
    · rename_i hw
      rw [if_neg hw] at h
      exact wpList_append hQ h2 rest _ _ h
theorem wpQuiet_append {P : Program} {ops : Array Oper} {C : World → Prop} {Q Q' : Act → Prop} {l2 : List Oper} (h2 : ∀ a, Q a → wpQuiet P ops C Q' l2 a) : ∀ (l1 : List Oper) (a : Act), wpQuiet P ops C Q l1 a → wpQuiet P ops C Q' (l1 ++ l2) a
  | [], a, h => h2 a h
  | o :: rest, a, h => by
    simp only [List.cons_append, wpQuiet] at h ⊢
    split
    · rename_i hw
      rw [if_pos hw] at h
      exact Oper.quiet_mono' (fun a => wpQuiet_append h2 rest a) h
    · rename_i hw
      rw [if_neg hw] at h
      exact wpQuiet_append h2 rest _ h
section
variable {P : Program} {n : Nat} {ops : Array Oper} {w0 : World} {Cs H : List Chunk} {e : Env} {K : Env → List Chunk → Prop} {rest : List Oper}
theorem Seq.appendL {l1 l2 : List Oper} (h : Seq P n ops w0 Cs l1 H e (fun e' H' => Seq P n ops w0 Cs l2 H' e' K)) : Seq P n ops w0 Cs (l1 ++ l2) H e K := by
  intro a w hf hw
  refine wpList_append (fun x a w h => h.1) ?_ l1 a w (h a w hf hw)
  rintro a' w' ⟨_, e', H', h1, h2, h3⟩
  exact h3 a' w' h1 h2
theorem Qui.appendL {K : Env → Prop} {l1 l2 : List Oper} (h : Qui P n ops w0 Cs H l1 e (fun e' => Qui P n ops w0 Cs H l2 e' K)) : Qui P n ops w0 Cs H (l1 ++ l2) e K := by
  intro a hf
  refine wpQuiet_append ?_ l1 a (h a hf)
  rintro a' ⟨e', h1, h2⟩
  exact h2 a' h1
theorem Seq.monoK {l : List Oper} {K' : Env → List Chunk → Prop} (h : Seq P n ops w0 Cs l H e K) (hk : ∀ e' H', K e' H' → K' e' H') : Seq P n ops w0 Cs l H e K' := by
  have := Seq.appendL (l1 := l) (l2 := []) (P := P) (n := n) (ops := ops) (w0 := w0) (Cs := Cs) (H := H) (e := e) (K := K')
    (fun a w hf hw => by
      have h1 := h a w hf hw
      have := wpList_append (Q' := fun x a' w' => x = .normal ∧ ∃ e' H', Fits n e' a' ∧ Upd w0 w' Cs H' ∧ Seq P n ops w0 Cs [] H' e' K') (l2 := []) (fun x a w h => h.1) (fun a w ⟨_, e', H', h1, h2, h3⟩ => ⟨rfl, e', H', h1, h2, Seq.nil (hk _ _ h3)⟩) l a w h1
      rwa [List.append_nil] at this)
  rwa [List.append_nil] at this
theorem Qui.monoK {l : List Oper} {K K' : Env → Prop} (h : Qui P n ops w0 Cs H l e K) (hk : ∀ e', K e' → K' e') : Qui P n ops w0 Cs H l e K' :=
  fun a hf => wpQuiet_mono (fun a ⟨e', h1, h2⟩ => ⟨e', h1, hk _ h2⟩) l a (h a hf)
def Grp (D : List Nat) (e : Env) (t : Nat) (b : Bool) (e' : Env) : Prop := Off D e' e ∧ Look e' (.tmp t) (.bool b)
theorem Grp.mix {D : List Nat} {e e' : Env} {t : Nat} {b : Bool} (h : Grp D e t b e') : e' = upd (Rx.mix D e' e) t (.bool b) := by
  funext j
  by_cases hj : j = t
  · subst hj
    rw [upd_same]
    exact h.2.eq
  · rw [upd_ne _ _ hj]
    simp only [Rx.mix]
    split
    · rfl
    · rename_i hd
      exact h.1.eq j hd
theorem Seq.andG {D : List Nat} {d t k : Nat} {a : Bool} {l : List Oper} (hc : Look e (.tmp d) (.bool a) := by repeat (first | exact Look.here | apply Look.there (hne := rfl) | exact Look.const | apply Look.mix rfl | exact Look.arg0 | apply Look.args | exact Look.func))
    (hn : a = false → Seq P n ops w0 Cs (l.take k) H (upd e d (.bool false)) (fun e' H' => H' = H ∧ Grp D e t false e'))
    (hx : ∃ b, (a = true → Seq P n ops w0 Cs (l.take k) H (upd e d (.bool true)) (fun e' H' => H' = H ∧ Grp D e t b e')) ∧
      (∀ u, Seq P n ops w0 Cs (l.drop k) H (upd (mix D u e) t (.bool (a && b))) K)) : Seq P n ops w0 Cs l H e K := by
  obtain ⟨b, hy, hk⟩ := hx
  rw [← List.take_append_drop k l]
  refine Seq.appendL ?_
  have he : upd e d (.bool a) = e := by
    funext j
    by_cases hj : j = d
    · subst hj; rw [upd_same]; exact hc.eq.symm
    · rw [upd_ne _ _ hj]
  have h2 : Seq P n ops w0 Cs (l.take k) H e (fun e' H' => H' = H ∧ Grp D e t (a && b) e') := by
    cases a with
    | true => rw [he] at hy; exact hy rfl
    | false => rw [he] at hn; exact hn rfl
  refine h2.monoK ?_
  rintro e' H' ⟨rfl, hg⟩
  rw [hg.mix]
  exact hk e'
theorem Seq.orG {D : List Nat} {d t k : Nat} {a : Bool} {l : List Oper} (hc : Look e (.tmp d) (.bool a) := by repeat (first | exact Look.here | apply Look.there (hne := rfl) | exact Look.const | apply Look.mix rfl | exact Look.arg0 | apply Look.args | exact Look.func))
    (hn : a = true → Seq P n ops w0 Cs (l.take k) H (upd e d (.bool true)) (fun e' H' => H' = H ∧ Grp D e t true e'))
    (hx : ∃ b, (a = false → Seq P n ops w0 Cs (l.take k) H (upd e d (.bool false)) (fun e' H' => H' = H ∧ Grp D e t b e')) ∧
      (∀ u, Seq P n ops w0 Cs (l.drop k) H (upd (mix D u e) t (.bool (a || b))) K)) : Seq P n ops w0 Cs l H e K := by
  obtain ⟨b, hy, hk⟩ := hx
  rw [← List.take_append_drop k l]
  refine Seq.appendL ?_
  have he : upd e d (.bool a) = e := by
    funext j
    by_cases hj : j = d
    · subst hj; rw [upd_same]; exact hc.eq.symm
    · rw [upd_ne _ _ hj]
  have h2 : Seq P n ops w0 Cs (l.take k) H e (fun e' H' => H' = H ∧ Grp D e t (a || b) e') := by
    cases a with
    | true => rw [he] at hn; exact hn rfl
    | false => rw [he] at hy; exact hy rfl
  refine h2.monoK ?_
  rintro e' H' ⟨rfl, hg⟩
  rw [hg.mix]
  exact hk e'
theorem Qui.andG {K : Env → Prop} {D : List Nat} {d t k : Nat} {a : Bool} {l : List Oper} (hc : Look e (.tmp d) (.bool a) := by repeat (first | exact Look.here | apply Look.there (hne := rfl) | exact Look.const | apply Look.mix rfl | exact Look.arg0 | apply Look.args | exact Look.func))
    (hn : a = false → Qui P n ops w0 Cs H (l.take k) (upd e d (.bool false)) (fun e' => Grp D e t false e'))
    (hx : ∃ b, (a = true → Qui P n ops w0 Cs H (l.take k) (upd e d (.bool true)) (fun e' => Grp D e t b e')) ∧
      (∀ u, Qui P n ops w0 Cs H (l.drop k) (upd (mix D u e) t (.bool (a && b))) K)) : Qui P n ops w0 Cs H l e K := by
  obtain ⟨b, hy, hk⟩ := hx
  rw [← List.take_append_drop k l]
  refine Qui.appendL ?_
  have he : upd e d (.bool a) = e := by
    funext j
    by_cases hj : j = d
    · subst hj; rw [upd_same]; exact hc.eq.symm
    · rw [upd_ne _ _ hj]
  have h2 : Qui P n ops w0 Cs H (l.take k) e (fun e' => Grp D e t (a && b) e') := by
    cases a with
    | true => rw [he] at hy; exact hy rfl
    | false => rw [he] at hn; exact hn rfl
  refine h2.monoK ?_
  intro e' hg
  rw [hg.mix]
  exact hk e'
theorem Qui.orG {K : Env → Prop} {D : List Nat} {d t k : Nat} {a : Bool} {l : List Oper} (hc : Look e (.tmp d) (.bool a) := by repeat (first | exact Look.here | apply Look.there (hne := rfl) | exact Look.const | apply Look.mix rfl | exact Look.arg0 | apply Look.args | exact Look.func))
    (hn : a = true → Qui P n ops w0 Cs H (l.take k) (upd e d (.bool true)) (fun e' => Grp D e t true e'))
    (hx : ∃ b, (a = false → Qui P n ops w0 Cs H (l.take k) (upd e d (.bool false)) (fun e' => Grp D e t b e')) ∧
      (∀ u, Qui P n ops w0 Cs H (l.drop k) (upd (mix D u e) t (.bool (a || b))) K)) : Qui P n ops w0 Cs H l e K := by
  obtain ⟨b, hy, hk⟩ := hx
  rw [← List.take_append_drop k l]
  refine Qui.appendL ?_
  have he : upd e d (.bool a) = e := by
    funext j
    by_cases hj : j = d
    · subst hj; rw [upd_same]; exact hc.eq.symm
    · rw [upd_ne _ _ hj]
  have h2 : Qui P n ops w0 Cs H (l.take k) e (fun e' => Grp D e t (a || b) e') := by
    cases a with
    | true => rw [he] at hn; exact hn rfl
    | false => rw [he] at hy; exact hy rfl
  refine h2.monoK ?_
  intro e' hg
  rw [hg.mix]
  exact hk e'
end

/-! ### single operations -/
section
variable {P : Program} {w0 : World} {Cs H : List Chunk} {e : Env} {ty tx ty' : TypeId} {x y : Operand} {k k' : IntKind} {a b : Int}
theorem Ev.nilP {ad : Addr} (hx : Look e x (.pointer (some ad)) := by repeat (first | exact Look.here | apply Look.there (hne := rfl) | exact Look.const | apply Look.mix rfl | exact Look.arg0 | apply Look.args | exact Look.func)) : Ev P w0 Cs H e (.nilCheck x) ty (.pointer (some ad)) := by
  intro w _ d pos af g
  replace hx := hx.eq
  simp [execOp, hx]
theorem Ev.min {ts : List TypeId} (hx : Look e x (.int k a) := by repeat (first | exact Look.here | apply Look.there (hne := rfl) | exact Look.const | apply Look.mix rfl | exact Look.arg0 | apply Look.args | exact Look.func)) (hy : Look e y (.int k b) := by repeat (first | exact Look.here | apply Look.there (hne := rfl) | exact Look.const | apply Look.mix rfl | exact Look.arg0 | apply Look.args | exact Look.func)) : Ev P w0 Cs H e (.call ⟨.builtin .min, #[x, y], ts.toArray⟩) ty (.int k (if b < a then b else a)) := by
  intro w _ d pos af g
  replace hx := hx.eq
  replace hy := hy.eq
  simp [execOp, resolve, invoke, builtin, hx, hy, Builtin.min_, Builtin.min2]
theorem Ev.max {ts : List TypeId} (hx : Look e x (.int k a) := by repeat (first | exact Look.here | apply Look.there (hne := rfl) | exact Look.const | apply Look.mix rfl | exact Look.arg0 | apply Look.args | exact Look.func)) (hy : Look e y (.int k b) := by repeat (first | exact Look.here | apply Look.there (hne := rfl) | exact Look.const | apply Look.mix rfl | exact Look.arg0 | apply Look.args | exact Look.func)) : Ev P w0 Cs H e (.call ⟨.builtin .max, #[x, y], ts.toArray⟩) ty (.int k (if a < b then b else a)) := by
  intro w _ d pos af g
  replace hx := hx.eq
  replace hy := hy.eq
  simp [execOp, resolve, invoke, builtin, hx, hy, Builtin.max_, Builtin.max2]
theorem Ev.shlB {r : Int} (hx : Look e x (.int k a) := by repeat (first | exact Look.here | apply Look.there (hne := rfl) | exact Look.const | apply Look.mix rfl | exact Look.arg0 | apply Look.args | exact Look.func)) (hy : Look e y (.int k' b) := by repeat (first | exact Look.here | apply Look.there (hne := rfl) | exact Look.const | apply Look.mix rfl | exact Look.arg0 | apply Look.args | exact Look.func)) (hb : 0 ≤ b := by omega) (hr : k.wrap (a * 2 ^ (Min.min b.toNat k.bits)) = r) : Ev P w0 Cs H e (.binOp .shl tx x y ty') ty (.int k r) := by
  have := Ev.shlW (P := P) (w0 := w0) (Cs := Cs) (H := H) (ty := ty) (tx := tx) (ty' := ty') hx hy hb
  rwa [hr] at this
theorem Ev.dec {m : Nat} (hx : Look e x (.int .i64 (m : Int)) := by repeat (first | exact Look.here | apply Look.there (hne := rfl) | exact Look.const | apply Look.mix rfl | exact Look.arg0 | apply Look.args | exact Look.func)) (h : 1 ≤ m ∧ m ≤ 9223372036854775807 := by omega) : Ev P w0 Cs H e (.binOp .sub tx x (.const (.int .i64 1)) ty') ty (.int .i64 ((m - 1 : Nat) : Int)) := by
  have h2 := Ev.sub (P := P) (w0 := w0) (Cs := Cs) (H := H) (ty := ty) (tx := tx) (ty' := ty') hx (Look.const (v := .int .i64 1)) (by omega)
  have e1 : ((m - 1 : Nat) : Int) = (m : Int) - 1 := by omega
  rw [e1]
  exact h2
def byteEnc (n : Int) : List Value := [.int .u8 n]
def strOf (l : List Int) : ByteArray := l.foldl (fun r n => r.push (UInt8.ofNat n.toNat)) ByteArray.empty
theorem Ev.strOf {s el : TypeId} {l : List Int} {v : Value} (hs : slcOf P s el 1 = true) (he : intOfT P el .u8 = true) (hd : isStr P ty' = true) (hx : Look e x v := by repeat (first | exact Look.here | apply Look.there (hne := rfl) | exact Look.const | apply Look.mix rfl | exact Look.arg0 | apply Look.args | exact Look.func)) (hr : RAt w0 Cs H byteEnc 1 v l) : Ev P w0 Cs H e (.convert s ty' x) ty (.string (strOf l)) := by
  intro w hw d pos af g
  replace hx := hx.eq
  obtain ⟨C, hr⟩ := hr w hw
  obtain ⟨A, c, rfl, hc, hA⟩ := hr.shape
  have h1 := run_convert_bytes_string (P := P) w s ty' el A l.length c (slcOf_und hs).1 (intOfT_und he) (isStr_und hd)
  have h2 : (Conv.bytesToString (.slice A l.length c)).run P w = .ok (.string (Rx.strOf l)) w := by
    cases A with
    | none =>
      have := hA rfl
      subst this
      rfl
    | some ad =>
      refine run_bytesToString w ad l.length c l ?_
      have := run_loadCells_list (P := P) w ad (l.map (Value.int .u8)) (fun j u hu => by
        have hj : j < l.length := by
          have := (List.getElem?_eq_some_iff.1 hu).1
          simpa using this
        have h3 := (hr.cell j hj 0 (.int .u8 l[j]!) rfl).1
        simp only [sbase, Nat.mul_one, Nat.add_zero] at h3
        rw [h3]
        rw [List.getElem?_map, List.getElem?_eq_getElem hj] at hu
        rw [getElem!_pos l j hj]
        simpa using hu)
      simpa using this
  simp [execOp, hx, h1, h2]
end
end Go.Rx
/- The rule layer: bytes and strings; slices of the call's own, written to and cut. -/
namespace Go.Rx
open Go Go.RowKit
set_option linter.unusedVariables false
set_option linter.unusedSimpArgs false
theorem addrB (b o m : Nat) : (⟨b, o, none⟩ : Addr).add m = ⟨b, o + m, none⟩ := by unfold Addr.add; split <;> simp_all
def bytesOf (s : ByteArray) : List Int := s.data.toList.map fun b => (b.toNat : Int)
theorem byteCells_eq (s : ByteArray) : byteCells s = (bytesOf s).flatMap byteEnc := by
  unfold byteCells bytesOf
  induction s.data.toList with
  | nil => rfl
  | cons b l ih =>
    simp only [List.map_cons, List.flatMap_cons, ih]
    rfl
section
variable {P : Program} {n : Nat} {ops : Array Oper} {w0 : World} {Cs H : List Chunk} {e : Env} {K : Env → List Chunk → Prop} {rest : List Oper} {t : Nat} {ty : TypeId} {pos : String} {af : Array Edge} {x y : Operand}
theorem Src.str {tx : TypeId} (hk : isStr P tx = true) (s : ByteArray) (w : World) : Src P 1 tx (.string s) s.size ((bytesOf s).flatMap byteEnc) w := by
  rw [← byteCells_eq]
  exact Src.ofString w (isStr_und hk) s
theorem OwnR.put {w : World} {el : TypeId} {sz m : Nat} {v : Value} {xs vs : List Value} {o : Nat} (h : OwnR w el sz v m xs) (hfit : o + vs.length ≤ m * sz) (hpos : 0 < vs.length) (h1 : ∀ u ∈ vs, u.oneCell' = true) :
    ∃ g off cap w', v = .slice (some ⟨g, off, none⟩) m cap ∧ (∀ P : Program, (storeCells ⟨g, off + o, none⟩ vs).run P w = .ok () w') ∧ Upd w w' [.own el sz v m xs] [.own el sz v m (xs.take o ++ vs ++ xs.drop (o + vs.length))] := by
  rcases h.2 with ⟨rfl, rfl⟩ | ⟨g, off, cap, cur, fr, rfl, hg, hnc, hcm, hcs, hfr, htake⟩
  · omega
  · have hmul : m * sz ≤ cap * sz := Nat.mul_le_mul_right _ hnc
    have hst := fun P : Program => run_storeCells_fr (P := P) g (off + o) el fr vs 0 cur w hg (by omega) (fun j h2 h3 => hfr j (by omega) (by omega)) h1
    simp only [Nat.add_zero] at hst
    refine ⟨g, off, cap, _, rfl, hst, ?_⟩
    have h4 : (cur.toList.take (off + o)).length = off + o := by
      rw [List.length_take, Array.length_toList (xs := cur)]; omega
    have hlen : (xs.take o ++ vs ++ xs.drop (o + vs.length)).length = m * sz := by
      have := h.1
      simp only [List.length_append, List.length_take, List.length_drop]
      omega
    refine ⟨rfl, rfl, rfl, by simp, fun i hi hne => setRow_other w g i _ (fun h => hne _ (List.mem_singleton.2 rfl) (by simp [Chunk.fp, Value.ownBlock, h])), ⟨?_, List.pairwise_singleton _ _⟩, ?_⟩
    · intro c hc
      simp at hc
      subst hc
      refine ⟨by simpa using hlen, .inr ⟨g, off, cap, _, fr, rfl, setRow_heap w g _ _ _ _ hg, hnc, hcm, ?_, hfr, ?_⟩⟩
      · rw [List.size_toArray, List.length_append, List.length_append, h4, List.length_drop, Array.length_toList (xs := cur)]
        omega
      · show List.take (m * sz) (List.drop off (cur.toList.take (off + o) ++ vs ++ cur.toList.drop (off + o + vs.length))) = _
        rw [List.append_assoc, List.drop_append_of_le_length (by rw [h4]; omega)]
        have e1 : List.drop off (cur.toList.take (off + o)) = xs.take o := by
          rw [List.drop_take, ← htake, List.take_take]
          congr 1
          omega
        rw [e1]
        have e2 : (xs.take o).length = o := by rw [List.length_take, h.1]; omega
        have e3 : List.take (m * sz - (o + vs.length)) (cur.toList.drop (off + o + vs.length)) = xs.drop (o + vs.length) := by
          rw [← htake, List.drop_take, List.drop_drop]
          congr 2
          omega
        have e4 : m * sz = (xs.take o ++ vs).length + (m * sz - (o + vs.length)) := by
          rw [List.length_append, e2]; omega
        rw [← List.append_assoc, e4, List.take_length_add_append, e3, List.append_assoc]
    · intro c hc j hj
      simp at hc
      subst hc
      exact .inl ⟨_, List.mem_singleton.2 rfl, hj⟩
theorem flatSet {α : Type} {enc : α → List Value} {sz : Nat} (hsz : ∀ x, (enc x).length = sz) (xs : List α) (i : Nat) (hi : i < xs.length) (y : α) :
    (xs.flatMap enc).take (i * sz) ++ enc y ++ (xs.flatMap enc).drop (i * sz + (enc y).length) = (xs.set i y).flatMap enc := by
  induction xs generalizing i with
  | nil => simp at hi
  | cons x xs ih =>
    cases i with
    | zero =>
      simp only [Nat.zero_mul, List.take_zero, List.nil_append, Nat.zero_add, List.flatMap_cons, List.set_cons_zero]
      rw [hsz, ← hsz x, List.drop_left]
    | succ i =>
      simp only [List.flatMap_cons, List.set_cons_succ]
      have h1 : (i + 1) * sz = (enc x).length + i * sz := by rw [hsz, Nat.add_mul]; omega
      rw [h1, List.take_length_add_append, Nat.add_assoc, List.append_assoc, List.append_assoc, List.drop_length_add_append, ← List.append_assoc (List.take _ _), ih i (by simpa using hi)]
theorem Seq.stOwn {α : Type} [Inhabited α] {enc : α → List Value} {el et : TypeId} {sz i q : Nat} {v u : Value} {xs : List α} (z : α) (hsz : szOf P et sz = true) (hpos : 0 < sz) (hx : Look e x (.pointer (some ((sbase v).add (q * sz)))) := by repeat (first | exact Look.here | apply Look.there (hne := rfl) | exact Look.const | apply Look.mix rfl | exact Look.arg0 | apply Look.args | exact Look.func)) (hy : Look e y u := by repeat (first | exact Look.here | apply Look.there (hne := rfl) | exact Look.const | apply Look.mix rfl | exact Look.arg0 | apply Look.args | exact Look.func))
    (hH : At H i (.own el sz v xs.length (xs.flatMap enc)) := by repeat (first | exact At.z | apply At.s)) (hu : cellsL u = enc z := by rfl) (henc : ∀ x, (enc x).length = sz := by intro _; rfl) (h1 : ∀ x, ∀ u ∈ enc x, u.oneCell' = true) (hq : q < xs.length := by omega)
    (k : Seq P n ops w0 Cs rest (H.set i (.own el sz v (xs.set q z).length ((xs.set q z).flatMap enc))) e K) :
    Seq P n ops w0 Cs (⟨none, .store et x y, ty, pos, af, none⟩ :: rest) H e K := by
  refine Seq.f0 (R := fun _ H' => H' = H.set i (.own el sz v (xs.set q z).length ((xs.set q z).flatMap enc))) ?_ ?_
  · intro w hw d pos af g
    have hok : OwnR w el sz v xs.length (xs.flatMap enc) := hH.ok hw
    have hlt : q * sz + (enc z).length ≤ xs.length * sz := by
      rw [henc]
      have := Nat.mul_le_mul_right sz (show q + 1 ≤ xs.length by omega)
      rw [Nat.add_mul] at this
      omega
    obtain ⟨g', off, cap, w', rfl, hst, hup⟩ := hok.put (vs := enc z) (o := q * sz) hlt (by rw [henc]; exact hpos) (h1 z)
    rw [flatSet henc xs q hq z] at hup
    refine ⟨undef, w', _, .inr ⟨?_, rfl⟩, ?_, rfl⟩
    · have hx' := hx.eq
      have hy' := hy.eq
      simp only [sbase, addrB] at hx'
      have hs2 := hst P
      simp [execOp, hx', hy', Instr.storeAt, Instr.sureAddr, storeVar, cellsL_eq, hu, szOf_run hsz, henc, hs2]
    · have h5 := Upd.at_ hw hH hup
      have e2 : (xs.set q z).length = xs.length := List.length_set
      rw [e2]
      exact h5
  · rintro _ H' rfl
    exact k
theorem Ev.addN {m c : Nat} {tx ty' : TypeId} (hx : Look e x (.int .i64 (m : Int)) := by repeat (first | exact Look.here | apply Look.there (hne := rfl) | exact Look.const | apply Look.mix rfl | exact Look.arg0 | apply Look.args | exact Look.func)) (hy : Look e y (.int .i64 (c : Int)) := by repeat (first | exact Look.here | apply Look.there (hne := rfl) | exact Look.const | apply Look.mix rfl | exact Look.arg0 | apply Look.args | exact Look.func)) (h : m + c ≤ 9223372036854775807 := by omega) : Ev P w0 Cs H e (.binOp .add tx x y ty') ty (.int .i64 ((m + c : Nat) : Int)) := by
  have h2 := Ev.add (P := P) (w0 := w0) (Cs := Cs) (H := H) (ty := ty) (tx := tx) (ty' := ty') hx hy (by omega)
  rw [show ((m + c : Nat) : Int) = (m : Int) + (c : Int) by omega]
  exact h2
end
end Go.Rx
/- The rule layer: slices made. -/
namespace Go.Rx
open Go Go.RowKit
set_option linter.unusedVariables false
set_option linter.unusedSimpArgs false
section
variable {P : Program} {n : Nat} {ops : Array Oper} {w0 : World} {Cs H : List Chunk} {e : Env} {K : Env → List Chunk → Prop} {rest : List Oper} {t : Nat} {ty : TypeId} {pos : String} {af : Array Edge} {x y : Operand}
theorem Ev.as {op : Op} {v v' : Value} (hv : v = v') (h : Ev P w0 Cs H e op ty v) : Ev P w0 Cs H e op ty v' := hv ▸ h
theorem Ev.subN {a b : Nat} {tx ty' : TypeId} (hx : Look e x (.int .i64 (a : Int)) := by repeat (first | exact Look.here | apply Look.there (hne := rfl) | exact Look.const | apply Look.mix rfl | exact Look.arg0 | apply Look.args | exact Look.func)) (hy : Look e y (.int .i64 (b : Int)) := by repeat (first | exact Look.here | apply Look.there (hne := rfl) | exact Look.const | apply Look.mix rfl | exact Look.arg0 | apply Look.args | exact Look.func)) (h : b ≤ a := by omega) (h2 : a ≤ 9223372036854775807 := by omega) : Ev P w0 Cs H e (.binOp .sub tx x y ty') ty (.int .i64 ((a - b : Nat) : Int)) :=
  Ev.as (by congr 1; omega) (Ev.sub hx hy (by omega))
theorem Ev.eqNilP {p : Option Addr} {tx ty' : TypeId} (ht : P.underlying tx = some (.pointer (P.pointee tx))) (hx : Look e x (.pointer p) := by repeat (first | exact Look.here | apply Look.there (hne := rfl) | exact Look.const | apply Look.mix rfl | exact Look.arg0 | apply Look.args | exact Look.func)) : Ev P w0 Cs H e (.binOp .eql tx x (.const (.pointer none)) ty') ty (.bool p.isNone) := by
  intro w _ d pos af g
  replace hx := hx.eq
  have e1 : ev e (.const (.pointer none)) = .pointer none := rfl
  have e2 : eqGuard .eql tx x (.const (.pointer none)) (.pointer p) (.pointer none) = pure () := rfl
  have e3 := run_eql_pointer_nil w tx p ht
  simp [execOp, hx, e1, e2, e3]
theorem Ev.neNilP {p : Option Addr} {tx ty' : TypeId} (ht : P.underlying tx = some (.pointer (P.pointee tx))) (hx : Look e x (.pointer p) := by repeat (first | exact Look.here | apply Look.there (hne := rfl) | exact Look.const | apply Look.mix rfl | exact Look.arg0 | apply Look.args | exact Look.func)) : Ev P w0 Cs H e (.binOp .neq tx x (.const (.pointer none)) ty') ty (.bool (!p.isNone)) := by
  intro w _ d pos af g
  replace hx := hx.eq
  have e1 : ev e (.const (.pointer none)) = .pointer none := rfl
  have e2 : eqGuard .neq tx x (.const (.pointer none)) (.pointer p) (.pointer none) = pure () := rfl
  have e3 := run_neq_pointer_nil w tx p ht
  simp [execOp, hx, e1, e2, e3]
end
theorem Part.at {c : Chunk} {H' H : List Chunk} {i : Nat} (h : At H i c) (k : Part H' (H.eraseIdx i)) : Part (c :: H') H := by
  obtain ⟨G, hG⟩ := k
  exact ⟨G, (hG.cons c).trans h.perm⟩
section
variable {P : Program} {n : Nat} {ops : Array Oper} {w0 : World} {Cs H : List Chunk} {e : Env} {ty : TypeId} {x y : Operand} {Q : Exit → Env → List Chunk → Prop}
theorem JC.fact {c : Code} {p : Prop} (h : ∀ w, Upd w0 w Cs H → p) (k : p → JC P n w0 Cs c H e Q) : JC P n w0 Cs c H e Q := fun a w hf hw => k (h w hw) a w hf hw
theorem Ev.iaLit {s el : TypeId} {sz m c i : Nat} {a : Addr} {k : IntKind} (hs : slcOf P s el sz = true) (hx : Look e x (.slice (some a) m c) := by repeat (first | exact Look.here | apply Look.there (hne := rfl) | exact Look.const | apply Look.mix rfl | exact Look.arg0 | apply Look.args | exact Look.func)) (hy : Look e y (.int k (i : Int)) := by repeat (first | exact Look.here | apply Look.there (hne := rfl) | exact Look.const | apply Look.mix rfl | exact Look.arg0 | apply Look.args | exact Look.func)) (hi : i < m := by omega) : Ev P w0 Cs H e (.indexAddr s x y) ty (.pointer (some (a.add (i * sz)))) := by
  intro w hw d pos af g
  replace hx := hx.eq
  replace hy := hy.eq
  obtain ⟨h1, h2⟩ := slcOf_und hs
  have h3 : 0 ≤ (i : Int) ∧ (i : Int) < (m : Int) := by omega
  simp [execOp, hx, hy, Instr.indexAt, asIntOf, run_underlying h1, h3, szOf_run h2]
  intro h
  omega
end
theorem OwnR.some {w : World} {el : TypeId} {sz m c : Nat} {A : Option Addr} {xs : List Value} (h : OwnR w el sz (.slice A m c) m xs) (hm : 0 < m) : ∃ g o, A = Option.some ⟨g, o, none⟩ := by
  rcases h.2 with ⟨h1, h2⟩ | ⟨g, off, cap, cur, fr, h1, _⟩
  · omega
  · cases h1
    exact ⟨g, off, rfl⟩
end Go.Rx
/- The rule layer: copy onto a slice of the call's own; zeros appended behind a part of one; a slice seen with all its room. -/
namespace Go.Rx
open Go Go.RowKit
set_option linter.unusedVariables false
set_option linter.unusedSimpArgs false
theorem own_short {w : World} {el : TypeId} {sz m c : Nat} {a : Addr} {xs : List Value} (h : OwnR w el sz (.slice (some a) c c) c xs) (hm : m ≤ c) : OwnR w el sz (.slice (some a) m c) m (xs.take (m * sz)) := by
  rcases h.2 with ⟨h0, _⟩ | ⟨g, off, cap, cur, fr, he, hg, hnc, hcm, hcs, hfr, htake⟩
  · cases h0
  · cases he
    have := Nat.mul_le_mul_right sz hm
    refine ⟨by rw [List.length_take, h.1]; omega, .inr ⟨g, off, c, cur, fr, rfl, hg, hm, hcm, hcs, hfr, ?_⟩⟩
    rw [← htake, List.take_take]
    congr 1
    omega
theorem Upd.same {w : World} {e : TypeId} {size n n' : Nat} {v v' : Value} {xs xs' : List Value} (ho : OwnR w e size v' n' xs') (hv : ∀ k, v'.ownBlock = some k → v.ownBlock = some k) :
    Upd w w [.own e size v n xs] [.own e size v' n' xs'] := by
  refine ⟨rfl, rfl, rfl, Nat.le_refl _, fun _ _ _ => rfl, ⟨?_, List.pairwise_singleton _ _⟩, ?_⟩
  · intro c hc
    simp only [List.mem_singleton] at hc
    subst hc
    exact ho
  · intro c hc i hi
    simp only [List.mem_singleton] at hc
    subst hc
    exact .inl ⟨_, List.mem_singleton.2 rfl, hv i hi⟩
section
variable {P : Program} {n : Nat} {ops : Array Oper} {w0 : World} {Cs H : List Chunk} {e : Env} {K : Env → List Chunk → Prop} {rest : List Oper} {t : Nat} {ty : TypeId} {pos : String} {af : Array Edge} {x y : Operand} {Q : Exit → Env → List Chunk → Prop}
theorem Upd.short {w : World} {el : TypeId} {sz m c i : Nat} {a : Addr} {xs : List Value} (hw : Upd w0 w Cs H) (hH : At H i (.own el sz (.slice (some a) c c) c xs)) (hm : m ≤ c) : Upd w0 w Cs (H.set i (.own el sz (.slice (some a) m c) m (xs.take (m * sz)))) :=
  hw.at_ hH (Upd.same (own_short (hH.ok hw) hm) (fun _ h => h))
theorem Cells.own {el : TypeId} {sz m cp i g off o : Nat} {xs cs : List Value} (hH : At H i (.own el sz (.slice (some ⟨g, off, none⟩) m cp) m xs)) (hd : ∀ j u, cs[j]? = some u → xs[o + j]? = some u) : Cells w0 Cs H ⟨g, off + o, none⟩ cs := by
  intro w hw j u hu
  have hok : OwnR w el sz _ m xs := hH.ok hw
  rw [addrB, Nat.add_assoc]
  exact hok.cells (o + j) u (hd j u hu)
theorem Ev.lenH {A : Option Addr} {m c sz : Nat} {tt el : TypeId} (ht : slcOf P tt el sz = true) (hx : Look e x (.slice A m c) := by repeat (first | exact Look.here | apply Look.there (hne := rfl) | exact Look.const | apply Look.mix rfl | exact Look.arg0 | apply Look.args | exact Look.func)) : Ev P w0 Cs H e (.call ⟨.builtin .len, #[x], #[tt]⟩) ty (.int .i64 (m : Int)) := by
  intro w _ d pos af g
  replace hx := hx.eq
  simp [execOp, resolve, invoke, builtin, hx, Builtin.len_, run_underlying (slcOf_und ht).1, goInt]
end
end Go.Rx
/- The rule layer: words of 64 bits as natural numbers; sums with a carry, differences with a borrow. -/
namespace Go.Rx
open Go Go.RowKit
set_option linter.unusedVariables false
set_option linter.unusedSimpArgs false
section
variable {P : Program} {w0 : World} {Cs H : List Chunk} {e : Env} {ty tx ty' : TypeId} {x y z : Operand} {a b c : Nat}
theorem Ev.addNM (hx : Look e x (.int .u64 (a : Int)) := by repeat (first | exact Look.here | apply Look.there (hne := rfl) | exact Look.const | apply Look.mix rfl | exact Look.arg0 | apply Look.args | exact Look.func)) (hy : Look e y (.int .u64 (b : Int)) := by repeat (first | exact Look.here | apply Look.there (hne := rfl) | exact Look.const | apply Look.mix rfl | exact Look.arg0 | apply Look.args | exact Look.func)) : Ev P w0 Cs H e (.binOp .add tx x y ty') ty (.int .u64 (((a + b) % 18446744073709551616 : Nat) : Int)) :=
  Ev.as (by congr 1) (Ev.addU hx hy)
theorem Ev.mulNU (hx : Look e x (.int .u64 (a : Int)) := by repeat (first | exact Look.here | apply Look.there (hne := rfl) | exact Look.const | apply Look.mix rfl | exact Look.arg0 | apply Look.args | exact Look.func)) (hy : Look e y (.int .u64 (b : Int)) := by repeat (first | exact Look.here | apply Look.there (hne := rfl) | exact Look.const | apply Look.mix rfl | exact Look.arg0 | apply Look.args | exact Look.func)) (h : a * b < 18446744073709551616 := by omega) : Ev P w0 Cs H e (.binOp .mul tx x y ty') ty (.int .u64 ((a * b : Nat) : Int)) :=
  Ev.as (by congr 1 <;> rw [wrap_u64 _ (by rw [← Int.natCast_mul]; omega), Int.natCast_mul]) (Ev.mulW (k := .u64) hx hy)
def sub64E : Array Value → Sem Value := fun args => do
  let (x, y, b) ← Extern.MathBitsCarry.three "Sub64" args
  pure (Extern.MathBitsCarry.pair ((x + Extern.MathBitsCarry.m64 - y - b) % Extern.MathBitsCarry.m64) (if x < y + b then 1 else 0))
end
end Go.Rx
/- The rule layer: a region that draws its order and ends by one operation that waits for all others: what that one changes may be read by the others. -/
namespace Go.Rx
open Go Go.RowKit
set_option linter.unusedVariables false
set_option linter.unusedSimpArgs false
section
variable (P : Program) (n : Nat) (ops : Array Oper) (w0 : World) (Cs H0 : List Chunk) (K : Env → List Chunk → Prop) (c : Nat)
def AnyV : Nat → Array Bool → List Chunk → Env → Prop
  | 0, listed, H, e => Region.ready .any ops listed = [] ∧ K e H
  | f + 1, listed, H, e => (Region.ready .any ops listed = [] → K e H) ∧ ∀ i ∈ Region.ready .any ops listed, ∀ a w, Fits n e a → Upd w0 w Cs H →
      wpOp P ops Q0 i (fun a' w' => ∃ e' H', Fits n e' a' ∧ Upd w0 w' Cs H' ∧ (i = c ∨ Part H0 H') ∧ AnyV f (listed.setIfInBounds i true) H' e') a w
end
def AnyC (c : Nat) (P : Program) (n : Nat) (ops : Array Oper) (w0 : World) (Cs H0 : List Chunk) (fuel : Nat) (listed : Array Bool) (H : List Chunk) (e : Env) (K : Env → List Chunk → Prop) : Prop :=
  Part H0 H → AnyV P n ops w0 Cs H0 K c fuel listed H e
def dirOn (ops : Array Oper) (c i : Nat) : Bool := i != c && (match ops[c]? with | some oc => oc.after.any fun e => Region.binds .any e && e.on == i | none => true)
theorem dirOn_spec {ops : Array Oper} {c i : Nat} (h : dirOn ops c i = true) : i ≠ c ∧ ∀ oc, ops[c]? = some oc → ∃ e ∈ oc.after, Region.binds .any e = true ∧ e.on = i := by
  unfold dirOn at h
  rw [Bool.and_eq_true] at h
  refine ⟨by simpa using h.1, fun oc hc => ?_⟩
  have h2 := h.2
  rw [hc] at h2
  simp only [Array.any_eq_true', Bool.and_eq_true, beq_iff_eq] at h2
  obtain ⟨e, he, h3, h4⟩ := h2
  exact ⟨e, he, h3, h4⟩
section
variable {P : Program} {n c : Nat} {ops : Array Oper} {w0 : World} {Cs H0 H : List Chunk} {e : Env} {K : Env → List Chunk → Prop} {fuel : Nat} {listed : Array Bool}
  {t : Nat} {op : Op} {ty : TypeId} {pos : String} {af : Array Edge} {v : Value}
theorem AnyV.first {i c : Nat} {oi : Oper} (hic : i ≠ c) (hdir : ∀ oc, ops[c]? = some oc → ∃ e ∈ oc.after, Region.binds .any e = true ∧ e.on = i) (hi : ops[i]? = some oi) (hd : oi.dst = some t) (ht : Nat.blt t n = true) (hsel : ∀ (j : Nat) (o : Oper) cs b, ops[j]? = some o → o.op ≠ .select cs b) :
    ∀ (fuel : Nat) (listed : Array Bool) (H : List Chunk) (e : Env),
      (∀ j oj, ops[j]? = some oj → j ≠ i → listed.getD j true = false → (∀ e ∈ oj.after, Region.binds .any e = true → e.on ≠ i) → oi.apart ops oj = true) →
      i ∈ Region.ready .any ops listed → (∀ a, Fits n e a → QA P ops w0 Cs H0 oi v a) → Part H0 H →
      AnyV P n ops w0 Cs H0 K c fuel (listed.setIfInBounds i true) H (upd e t v) → AnyV P n ops w0 Cs H0 K c (fuel + 1) listed H e := by
  intro fuel
  induction fuel with
  | zero =>
    intro listed H e _ hr hy hp h
    refine ⟨fun h0 => (by rw [h0] at hr; cases hr), fun j hj a w hf hw => ?_⟩
    by_cases hji : j = i
    · subst hji
      refine (hy a hf).wpOp hi (hw.part hp) fun w' hu => ?_
      rw [hd]
      exact ⟨_, H, hf.put ht v, hw.grow hu, .inr hp, h⟩
    · have := ready_mono hj hji
      rw [h.1] at this
      cases this
  | succ fuel ih =>
    intro listed H e hfree hr hy hp h
    refine ⟨fun h0 => (by rw [h0] at hr; cases hr), fun j hj a w hf hw => ?_⟩
    by_cases hji : j = i
    · subst hji
      refine (hy a hf).wpOp hi (hw.part hp) fun w' hu => ?_
      rw [hd]
      exact ⟨_, H, hf.put ht v, hw.grow hu, .inr hp, h⟩
    · have h1 := h.2 j (ready_mono hj hji) _ w (hf.put ht v) hw
      obtain ⟨hjun, oj, hoj, hall⟩ := mem_ready.1 hj
      have hnot : ∀ e ∈ oj.after, Region.binds .any e = true → e.on ≠ i := fun e he hb heq => by
        have h1 := hall e he hb
        have h0 := (mem_ready.1 hr).1
        rw [heq] at h1
        rcases Nat.lt_or_ge i listed.size with h' | h'
        · simp [h'] at h0 h1; rw [h0] at h1; cases h1
        · simp [Array.getElem?_eq_none h'] at h1
      have h2 := wpOp_putQ (v := v) hoj (hfree j oj hoj hji hjun hnot) (fun cs b => hsel i oi cs b hi) (fun cs b => hsel j oj cs b hoj) (hy a hf) (by rw [hd]; exact h1)
      have hfree' : ∀ k ok, ops[k]? = some ok → k ≠ i → (listed.setIfInBounds j true).getD k true = false →
          (∀ e ∈ ok.after, Region.binds .any e = true → e.on ≠ i) → oi.apart ops ok = true := fun k ok hk hki hun hno => by
        refine hfree k ok hk hki ?_ hno
        by_cases hjk : j = k
        · subst hjk; exact hjun
        · rw [getD_set_ne true hjk] at hun; exact hun
      refine wpOp_mono ?_ h2
      rintro a' w' ⟨hq, e', H', hf', hw', hpc, hk'⟩
      have hp' : Part H0 H' := by
        rcases hpc with hpc | hpc
        · subst hpc
          obtain ⟨ed, he1, he2, he3⟩ := hdir oj hoj
          exact absurd he3 (hnot ed he1 he2)
        · exact hpc
      rw [hd] at hf'
      have hsz : a'.tmps.size = n := by have := hf'.size; simpa [Act.put] using this
      have hf2 : Fits n (fun k => a'.tmps.getD k undef) a' := ⟨hsz, fun _ => rfl, by have := hf'.defers; simpa [Act.put] using this⟩
      have he : e' = upd (fun k => a'.tmps.getD k undef) t v := by
        funext k
        rw [← hf'.at_ k, ← (hf2.put ht v).at_ k]
      refine ⟨_, H', hf2, hw', .inr hp', ih (listed.setIfInBounds j true) H' _ hfree' (ready_mono hr (Ne.symm hji)) ?_ hp' ?_⟩
      · intro b hb
        refine hq.of_same ?_ ?_
        · rw [hb.eval, hf2.eval]
        · rw [hb.same hf2]
      · rw [Array.setIfInBounds_comm _ _ hji, ← he]
        exact hk'
theorem AnyV.take (i : Nat) {oi : Oper} (hdc : dirOn ops c i = true) (hi : ops[i]? = some oi) (hd : oi.dst = some t) (ht : Nat.blt t n = true) (hs : Region.noSelect ops = true) (hfr : Region.free .any ops listed i = true) (hr : (Region.ready .any ops listed).contains i = true)
    (hq : ∀ a, Fits n e a → QA P ops w0 Cs H0 oi v a) (k : AnyC c P n ops w0 Cs H0 fuel (listed.setIfInBounds i true) H (upd e t v) K) : AnyC c P n ops w0 Cs H0 (fuel + 1) listed H e K :=
  fun hp => AnyV.first (dirOn_spec hdc).1 (dirOn_spec hdc).2 hi hd ht (Region.noSelect_spec hs) fuel listed H e (Region.free_spec hi hfr) (by simpa using hr) hq hp (k hp)
theorem AnyC.done (hr : Region.ready .any ops listed = []) (h : K e H) : AnyC c P n ops w0 Cs H0 fuel listed H e K := by
  intro _
  cases fuel with
  | zero => exact ⟨hr, h⟩
  | succ f => exact ⟨fun _ => h, by rw [hr]; simp⟩
theorem AnyC.p (i : Nat) (hi : ops[i]? = some ⟨some t, op, ty, pos, af, none⟩) (hdc : dirOn ops c i = true) (hs : Region.noSelect ops = true) (hfr : Region.free .any ops listed i = true) (hr : (Region.ready .any ops listed).contains i = true)
    (ht : Nat.blt t n = true) (h : Ev P w0 Cs H0 e op ty v) (k : AnyC c P n ops w0 Cs H0 fuel (listed.setIfInBounds i true) H (upd e t v) K) : AnyC c P n ops w0 Cs H0 (fuel + 1) listed H e K := by
  refine AnyV.take i hdc hi rfl ht hs hfr hr (fun a hf => .inl ⟨wanted_none rfl _, fun w hw => ?_⟩) k
  rw [hf.eval, h w hw]
  exact ⟨rfl, rfl⟩
theorem AnyC.gy (i : Nat) {g : Nat × Bool} {d : Nat} (hi : ops[i]? = some ⟨some t, op, ty, pos, af, some g⟩) (hdc : dirOn ops c i = true) (hs : Region.noSelect ops = true) (hfr : Region.free .any ops listed i = true) (hr : (Region.ready .any ops listed).contains i = true)
    (hd : (ops[g.1]?).bind (·.dst) = some d) (hn : Nat.blt d n = true) (hg : e d = .bool g.2)
    (ht : Nat.blt t n = true) (h : Ev P w0 Cs H0 e op ty v) (k : AnyC c P n ops w0 Cs H0 fuel (listed.setIfInBounds i true) H (upd e t v) K) : AnyC c P n ops w0 Cs H0 (fuel + 1) listed H e K := by
  refine AnyV.take i hdc hi rfl ht hs hfr hr (fun a hf => .inl ⟨by simp [Region.wanted, hf.yielded hd hg hn], fun w hw => ?_⟩) k
  rw [hf.eval, h w hw]
  exact ⟨rfl, rfl⟩
theorem AnyC.gn (i : Nat) {g : Nat × Bool} {d : Nat} (hi : ops[i]? = some ⟨some t, op, ty, pos, af, some g⟩) (hdc : dirOn ops c i = true) (hs : Region.noSelect ops = true) (hfr : Region.free .any ops listed i = true) (hr : (Region.ready .any ops listed).contains i = true)
    (hd : (ops[g.1]?).bind (·.dst) = some d) (hn : Nat.blt d n = true) (hg : e d = .bool (!g.2))
    (ht : Nat.blt t n = true) (k : AnyC c P n ops w0 Cs H0 fuel (listed.setIfInBounds i true) H (upd e t undef) K) : AnyC c P n ops w0 Cs H0 (fuel + 1) listed H e K :=
  AnyV.take i hdc hi rfl ht hs hfr hr (fun a hf => .inr ⟨by simp [Region.wanted, hf.yielded hd hg hn], rfl⟩) k
theorem AnyC.gu (i : Nat) {g : Nat × Bool} {d : Nat} (hi : ops[i]? = some ⟨some t, op, ty, pos, af, some g⟩) (hdc : dirOn ops c i = true) (hs : Region.noSelect ops = true) (hfr : Region.free .any ops listed i = true) (hr : (Region.ready .any ops listed).contains i = true)
    (hd : (ops[g.1]?).bind (·.dst) = some d) (hg : e d = undef)
    (ht : Nat.blt t n = true) (k : AnyC c P n ops w0 Cs H0 fuel (listed.setIfInBounds i true) H (upd e t undef) K) : AnyC c P n ops w0 Cs H0 (fuel + 1) listed H e K :=
  AnyV.take i hdc hi rfl ht hs hfr hr (fun a hf => .inr ⟨by simp [Region.wanted, yielded_undef (ops := ops) hf hd hg], rfl⟩) k
theorem AnyC.call (i : Nat) {f : FuncId} {as : List Operand} {ats : Array TypeId} (hi : ops[i]? = some ⟨some t, .call ⟨.value (.func f), as.toArray, ats⟩, ty, pos, af, none⟩) (hdc : dirOn ops c i = true) (hs : Region.noSelect ops = true) (hfr : Region.free .any ops listed i = true) (hr : (Region.ready .any ops listed).contains i = true)
    (ht : Nat.blt t n = true) (h : ∀ w, Upd w0 w Cs H0 → Spec P f (as.map (ev e)).toArray w [] (fun u _ => u = v)) (k : AnyC c P n ops w0 Cs H0 fuel (listed.setIfInBounds i true) H (upd e t v) K) : AnyC c P n ops w0 Cs H0 (fuel + 1) listed H e K :=
  AnyV.take i hdc hi rfl ht hs hfr hr (fun a hf => .inl ⟨wanted_none rfl _, fun w hw => quiet_call h hf hw⟩) k
theorem AnyV.at_ {m : Nat} {o : Oper} (hm : ops[m]? = some o) (h : Seq P n ops w0 Cs [o] H e (fun e' H' => Part H0 H' ∧ AnyC c P n ops w0 Cs H0 fuel (listed.setIfInBounds m true) H' e' K)) {a : Act} {w : World} (hf : Fits n e a) (hw : Upd w0 w Cs H) :
    wpOp P ops Q0 m (fun a' w' => ∃ e' H', Fits n e' a' ∧ Upd w0 w' Cs H' ∧ (m = c ∨ Part H0 H') ∧ AnyV P n ops w0 Cs H0 K c fuel (listed.setIfInBounds m true) H' e') a w := by
  have h3 := wpOp_of_wpList (Q' := Q0) hm (fun x a w h => h.1) (h a w hf hw)
  refine wpOp_mono ?_ h3
  rintro a' w' ⟨_, e', H', h4, h5, h6, h7⟩
  exact ⟨e', H', h4, h5, .inr h6, h7 h6⟩
theorem AnyC.one (i : Nat) {o : Oper} (hi : ops[i]? = some o) (hr : Region.ready .any ops listed = [i])
    (h : Seq P n ops w0 Cs [o] H e (fun e' H' => Part H0 H' ∧ AnyC c P n ops w0 Cs H0 fuel (listed.setIfInBounds i true) H' e' K)) : AnyC c P n ops w0 Cs H0 (fuel + 1) listed H e K := by
  intro hp
  refine ⟨fun h0 => (by rw [hr] at h0; cases h0), fun j hj a w hf hw => ?_⟩
  rw [hr] at hj
  have hj' : j = i := by simpa using hj
  subst hj'
  exact AnyV.at_ hi h hf hw
theorem AnyC.two (i j : Nat) {o o' : Oper} (hi : ops[i]? = some o) (hj : ops[j]? = some o') (hr : Region.ready .any ops listed = [i, j])
    (h : Seq P n ops w0 Cs [o] H e (fun e' H' => Part H0 H' ∧ AnyC c P n ops w0 Cs H0 fuel (listed.setIfInBounds i true) H' e' K))
    (h' : Seq P n ops w0 Cs [o'] H e (fun e' H' => Part H0 H' ∧ AnyC c P n ops w0 Cs H0 fuel (listed.setIfInBounds j true) H' e' K)) : AnyC c P n ops w0 Cs H0 (fuel + 1) listed H e K := by
  intro hp
  refine ⟨fun h0 => (by rw [hr] at h0; cases h0), fun m hm a w hf hw => ?_⟩
  rw [hr] at hm
  have hm' : m = i ∨ m = j := by simpa using hm
  rcases hm' with rfl | rfl
  · exact AnyV.at_ hi h hf hw
  · exact AnyV.at_ hj h' hf hw
theorem AnyV.wp : ∀ (fuel : Nat) (listed : Array Bool) (H : List Chunk) (e : Env), AnyV P n ops w0 Cs H0 K c fuel listed H e → ∀ a w, Fits n e a → Upd w0 w Cs H →
    wpAny P .any ops (fun x a' w' => x = .normal ∧ ∃ e' H', Fits n e' a' ∧ Upd w0 w' Cs H' ∧ K e' H') fuel listed a w
  | 0, listed, H, e, h, a, w, hf, hw => ⟨h.1, rfl, e, H, hf, hw, h.2⟩
  | f + 1, listed, H, e, h, a, w, hf, hw => by
    refine ⟨fun h0 => ⟨rfl, e, H, hf, hw, h.1 h0⟩, fun i hi => ?_⟩
    have h2 := h.2 i hi a w hf hw
    have h3 : wpOp P ops Q0 i (wpAny P .any ops (fun x a' w' => x = .normal ∧ ∃ e' H', Fits n e' a' ∧ Upd w0 w' Cs H' ∧ K e' H') f (listed.setIfInBounds i true)) a w := by
      refine wpOp_mono ?_ h2
      rintro a' w' ⟨e', H', h4, h5, _, h7⟩
      exact AnyV.wp f _ H' e' h7 a' w' h4 h5
    unfold wpOp at h3 ⊢
    cases ho : ops[i]? with
    | none =>
      rw [ho] at h3
      exact h3
    | some o =>
      rw [ho] at h3
      simp only at h3 ⊢
      split
      · rename_i hwt
        rw [if_pos hwt] at h3
        rcases h3 with h3 | ⟨_, h3⟩
        · exact .inl (upon_change (fun _ _ _ h => h.elim) (fun _ _ h => h) h3)
        · exact absurd h3 Q0_out
      · rename_i hwt
        rw [if_neg hwt] at h3
        exact h3
theorem AnyC.split {d : Nat} {b : Bool} (hd : Look e (.tmp d) (.bool b) := by repeat (first | exact Look.here | apply Look.there (hne := rfl) | exact Look.const | apply Look.mix rfl | exact Look.arg0 | apply Look.args | exact Look.func)) (k : ∀ b' : Bool, b = b' → AnyC c P n ops w0 Cs H0 fuel listed H (upd e d (.bool b')) K) : AnyC c P n ops w0 Cs H0 fuel listed H e K := by
  have h := k b rfl
  have he : upd e d (.bool b) = e := by
    funext j
    by_cases hj : j = d
    · subst hj; rw [upd_same]; exact hd.eq.symm
    · rw [upd_ne _ _ hj]
  rwa [he] at h
end
end Go.Rx
/- From the reading of a call's arguments: rows whose elements hold slices; a claim's first world with its shape. -/
namespace Go.Rx
open Go Go.RowKit
set_option linter.unusedVariables false
section
variable {H : Type} {enc : TypeId × Value → H} {P : Program} {w : World} {base : Nat} {held : Bool}
end
end Go.Rx
/- The whole rule layer. -/
/- A sorted tree that stays flat, as data: what is done to it, and what that leaves alike. -/
namespace Go.Rx
open Go Go.RowKit
set_option linter.unusedVariables false
set_option linter.unusedSimpArgs false
inductive Tr where
  | nil
  | node (a : Nat) (k : Int) (v : Value) (l r : Tr)
deriving Inhabited
def Tr.high : Tr → Nat
  | .nil => 0
  | .node _ _ _ l r => 1 + max l.high r.high
def Tr.size : Tr → Nat
  | .nil => 0
  | .node _ _ _ l r => 1 + l.size + r.size
def Tr.ins : Tr → List (Int × Value)
  | .nil => []
  | .node _ k v l r => l.ins ++ (k, v) :: r.ins
def Tr.ok : Tr → Prop
  | .nil => True
  | .node _ _ _ l r => l.ok ∧ r.ok ∧ l.high ≤ r.high + 1 ∧ r.high ≤ l.high + 1
def Tr.left : Tr → Tr
  | .nil => .nil
  | .node _ _ _ l _ => l
def Tr.right : Tr → Tr
  | .nil => .nil
  | .node _ _ _ _ r => r
theorem Tr.size_ins : ∀ t : Tr, t.ins.length = t.size
  | .nil => rfl
  | .node _ _ _ l r => by
    simp only [Tr.ins, Tr.size, List.length_append, List.length_cons, l.size_ins, r.size_ins]
    omega
def Tr.turn0 : Tr → Tr
  | .node a k v (.node b kb vb l m) r => .node b kb vb l (.node a k v m r)
  | t => t
def Tr.turn1 : Tr → Tr
  | .node a k v l (.node b kb vb m r) => .node b kb vb (.node a k v l m) r
  | t => t
def Tr.flat : Tr → Tr
  | .nil => .nil
  | .node a k v l r =>
    if r.high + 1 < l.high then Tr.turn0 (.node a k v (if l.left.high < l.right.high then l.turn1 else l) r)
    else if l.high + 1 < r.high then Tr.turn1 (.node a k v l (if r.right.high < r.left.high then r.turn0 else r))
    else .node a k v l r
structure Fr where
  s : Bool
  a : Nat
  k : Int
  v : Value
  t : Tr
  h : Nat
  n : Nat
deriving Inhabited
def Fr.plug (f : Fr) (x : Tr) : Tr := if f.s then .node f.a f.k f.v f.t x else .node f.a f.k f.v x f.t
def plugs : List Fr → Tr → Tr
  | [], x => x
  | f :: fs, x => plugs fs (f.plug x)
def rebF : List Fr → Tr → Tr
  | [], x => x
  | f :: fs, x => rebF fs (f.plug x).flat
def Fr.pre (f : Fr) : List (Int × Value) := if f.s then f.t.ins ++ [(f.k, f.v)] else []
def Fr.post (f : Fr) : List (Int × Value) := if f.s then [] else (f.k, f.v) :: f.t.ins
def preF : List Fr → List (Int × Value)
  | [] => []
  | f :: fs => preF fs ++ f.pre
def postF : List Fr → List (Int × Value)
  | [] => []
  | f :: fs => f.post ++ postF fs
def wayF : List Fr → Tr → Int → List Fr × Tr
  | fs, .nil, _ => (fs, .nil)
  | fs, .node a k v l r, key => if k = key then (fs, .node a k v l r) else if k < key then wayF (⟨true, a, k, v, l, 1 + max l.high r.high, 1 + l.size + r.size⟩ :: fs) r key else wayF (⟨false, a, k, v, r, 1 + max l.high r.high, 1 + l.size + r.size⟩ :: fs) l key
def sortK (l : List (Int × Value)) : Prop := l.Pairwise fun a b => a.1 < b.1
def leastF : Nat → Nat
  | 0 => 0
  | 1 => 1
  | h + 2 => leastF (h + 1) + leastF h + 1
theorem least_mono : ∀ (h : Nat), leastF h ≤ leastF (h + 1)
  | 0 => by decide
  | 1 => by decide
  | h + 2 => by
    show leastF (h + 1) + leastF h + 1 ≤ leastF (h + 2) + leastF (h + 1) + 1
    have := least_mono h
    have h2 : leastF (h + 2) = leastF (h + 1) + leastF h + 1 := rfl
    omega
theorem least_le {a b : Nat} (h : a ≤ b) : leastF a ≤ leastF b := by
  induction h with
  | refl => exact Nat.le_refl _
  | step _ ih => exact Nat.le_trans ih (least_mono _)
theorem Tr.least : ∀ {t : Tr}, t.ok → leastF t.high ≤ t.size ∧ t.size < 2 ^ t.high
  | .nil, _ => by simp [Tr.high, Tr.size, leastF]
  | .node a k v l r, h => by
    obtain ⟨hl, hr, h1, h2⟩ := h
    have il := Tr.least hl
    have ir := Tr.least hr
    simp only [Tr.high, Tr.size]
    constructor
    · rw [Nat.add_comm 1 (max l.high r.high)]
      by_cases hc : l.high ≤ r.high
      · rw [Nat.max_eq_right hc]
        cases hr0 : r.high with
        | zero =>
          show 1 ≤ _
          omega
        | succ n =>
          show leastF (n + 1) + leastF n + 1 ≤ _
          rw [hr0] at ir h2
          have := least_le (a := n) (b := l.high) (by omega)
          omega
      · rw [Nat.max_eq_left (by omega)]
        cases hl0 : l.high with
        | zero => omega
        | succ n =>
          show leastF (n + 1) + leastF n + 1 ≤ _
          rw [hl0] at il h1
          have := least_le (a := n) (b := r.high) (by omega)
          omega
    · have e : 2 ^ (1 + max l.high r.high) = 2 * 2 ^ max l.high r.high := by rw [Nat.pow_add, Nat.pow_one]
      have p1 : 2 ^ l.high ≤ 2 ^ max l.high r.high := Nat.pow_le_pow_right (by omega) (by omega)
      have p2 : 2 ^ r.high ≤ 2 ^ max l.high r.high := Nat.pow_le_pow_right (by omega) (by omega)
      rw [e]
      omega
theorem Tr.high_le {t : Tr} (h : t.ok) (hs : t.size ≤ 1000000) : t.high ≤ 30 := by
  refine Nat.le_of_not_lt fun h2 => ?_
  have h3 := least_le (a := 31) (b := t.high) h2
  have h4 := (Tr.least h).1
  have h5 : leastF 31 = 3524577 := by decide
  omega
end Go.Rx
/- The rule layer: pieces of memory taken as one piece. -/
namespace Go.Rx
open Go Go.RowKit
set_option linter.unusedVariables false
set_option linter.unusedSimpArgs false
def packA (L : List Chunk) : Asn where
  fp i := ∃ c ∈ L, c.fp i
  ok w := Own w L
  stable := fun {_ _} h ho => ⟨fun c hc => c.stable (fun i hi => h i ⟨c, hc, hi⟩) (ho.ok c hc), ho.sep⟩
  live := fun {_ _} ho hi => by
    obtain ⟨c, hc, hi⟩ := hi
    exact c.live (ho.ok c hc) hi
abbrev Chunk.pk (L : List Chunk) : Chunk := .any (packA L)
theorem Own.unpk {w : World} {L H : List Chunk} (h : Own w (.pk L :: H)) : Own w (L ++ H) := by
  obtain ⟨ho, hs⟩ := h
  have hL : Own w L := ho _ List.mem_cons_self
  obtain ⟨h1, h2⟩ := List.pairwise_cons.1 hs
  refine ⟨fun c hc => ?_, List.pairwise_append.2 ⟨hL.sep, h2, fun a ha b hb i hai hbi => h1 b hb i ⟨a, ha, hai⟩ hbi⟩⟩
  rcases List.mem_append.1 hc with hc | hc
  · exact hL.ok c hc
  · exact ho c (List.mem_cons_of_mem _ hc)
theorem Own.pk {w : World} {L H : List Chunk} (h : Own w (L ++ H)) : Own w (.pk L :: H) := by
  obtain ⟨ho, hs⟩ := h
  obtain ⟨h1, h2, h3⟩ := List.pairwise_append.1 hs
  refine ⟨fun c hc => ?_, List.pairwise_cons.2 ⟨fun b hb i hai hbi => ?_, h2⟩⟩
  · rcases List.mem_cons.1 hc with rfl | hc
    · exact ⟨fun c hc => ho c (List.mem_append_left _ hc), h1⟩
    · exact ho c (List.mem_append_right _ hc)
  · obtain ⟨a, ha, hai⟩ := hai
    exact h3 a ha b hb i hai hbi
section
variable {w0 w : World} {Cs H L G : List Chunk}
theorem Upd.unpk0 (h : Upd w0 w Cs (.pk L :: H)) : Upd w0 w Cs (L ++ H) := by
  refine ⟨h.os, h.tape, h.output, h.size, h.keep, h.own.unpk, fun c hc i hi => ?_⟩
  rcases List.mem_append.1 hc with hc | hc
  · exact h.fresh (.pk L) List.mem_cons_self i ⟨c, hc, hi⟩
  · exact h.fresh c (List.mem_cons_of_mem _ hc) i hi
theorem Upd.pk0 (h : Upd w0 w Cs (L ++ H)) : Upd w0 w Cs (.pk L :: H) := by
  refine ⟨h.os, h.tape, h.output, h.size, h.keep, h.own.pk, fun c hc i hi => ?_⟩
  rcases List.mem_cons.1 hc with rfl | hc
  · obtain ⟨a, ha, hai⟩ := hi
    exact h.fresh a (List.mem_append_left _ ha) i hai
  · exact h.fresh c (List.mem_append_right _ hc) i hi
theorem Upd.unpk {i : Nat} (h : Upd w0 w Cs H) (hi : At H i (.pk L)) : Upd w0 w Cs (L ++ H.eraseIdx i) := (h.perm hi.perm.symm).unpk0
theorem Upd.pk (h : Upd w0 w Cs H) (hp : (L ++ G).Perm H) : Upd w0 w Cs (.pk L :: G) := (h.perm hp.symm).pk0
end
/-! ### trees in memory -/
def Tr.adr : Tr → Option Addr
  | .nil => none
  | .node a _ _ _ _ => some ⟨a, 0, none⟩
abbrev Tr.ptr (t : Tr) : Value := .pointer t.adr
theorem Tr.adr_none {t : Tr} (h : t.adr.isNone = true) : t = .nil := by
  cases t with
  | nil => rfl
  | node a k v l r => cases h
theorem Tr.adr_some {t : Tr} (h : t.adr.isNone = false) : ∃ a k v l r, t = .node a k v l r := by
  cases t with
  | nil => cases h
  | node a k v l r => exact ⟨a, k, v, l, r, rfl⟩
abbrev nodeC (T : TypeId) (a : Nat) (k : Int) (v : Value) (h n : Nat) (p q : Value) : Chunk := .box a T [.int .i64 k, v, .int .i64 (h : Int), .int .i64 (n : Int), p, q]
def treeC (T : TypeId) : Tr → Chunk
  | .nil => .pk []
  | .node a k v l r => .pk [nodeC T a k v (1 + max l.high r.high) (1 + l.size + r.size) l.ptr r.ptr, treeC T l, treeC T r]
end Go.Rx
