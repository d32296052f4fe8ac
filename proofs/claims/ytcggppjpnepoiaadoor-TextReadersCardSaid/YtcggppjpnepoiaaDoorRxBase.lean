/- The rule layer of these proofs: a frame of temporaries as a function, a symbolic memory as a list of owned pieces, and the rules of single operations over them; nothing of one program stands here. -/
import Derived.WalkKit
import Derived.KernelRfl
import Derived.Deep.Quiet
namespace Go.Rx
open Go Go.RowKit
set_option linter.unusedVariables false
set_option linter.unusedSimpArgs false

/-! ### pieces of memory -/
/-- What is said of some blocks, and of no others. -/
structure Asn where
  fp : Nat → Prop
  ok : World → Prop
  stable : ∀ {w w' : World}, (∀ i, fp i → w'.heap[i]? = w.heap[i]?) → ok w → ok w'
  live : ∀ {w : World} {i : Nat}, ok w → fp i → i < w.heap.size
/-- A slice of the call's own, wherever in its block it begins: of n elements of 'sz' cells; its room holds no frozen cell. -/
def OwnR (w : World) (e : TypeId) (sz : Nat) (v : Value) (n : Nat) (xs : List Value) : Prop :=
  xs.length = n * sz ∧ ((v = .slice none 0 0 ∧ n = 0) ∨
    ∃ g off cap cur fr, v = .slice (some ⟨g, off, none⟩) n cap ∧ w.heap[g]? = some (.cells cur e fr) ∧ n ≤ cap ∧ cap ≤ maxLen ∧ off + cap * sz ≤ cur.size ∧
      (∀ j, off ≤ j → j < off + cap * sz → ¬ (fr.1 ≤ j ∧ j < fr.2)) ∧ (cur.toList.drop off).take (n * sz) = xs)
theorem OwnR.lt {w : World} {e : TypeId} {sz : Nat} {v : Value} {n : Nat} {xs : List Value} (h : OwnR w e sz v n xs) {i : Nat} (hi : v.ownBlock = some i) : i < w.heap.size := by
  rcases h.2 with ⟨rfl, _⟩ | ⟨g, off, cap, cur, fr, rfl, hg, _⟩
  · cases hi
  · cases hi
    exact (Array.getElem?_eq_some_iff.1 hg).1
theorem OwnR.nil (w : World) (e : TypeId) (sz : Nat) : OwnR w e sz (.slice none 0 0) 0 [] := ⟨by simp, .inl ⟨rfl, rfl⟩⟩
/-- A piece: a block that holds just this object; a slice of the call's own (elements of 'size' cells of type e; n of them, their cells one behind the other); whatever else is said of blocks. -/
inductive Chunk where
  | blk (b : Nat) (o : Obj)
  | own (e : TypeId) (size : Nat) (v : Value) (n : Nat) (xs : List Value)
  | any (A : Asn)
def Chunk.fp : Chunk → Nat → Prop
  | .blk b _, i => i = b
  | .own _ _ v _ _, i => v.ownBlock = some i
  | .any A, i => A.fp i
def Chunk.ok : Chunk → World → Prop
  | .blk b o, w => w.heap[b]? = some o
  | .own e size v n xs, w => OwnR w e size v n xs
  | .any A, w => A.ok w
theorem Chunk.stable (c : Chunk) {w w' : World} (h : ∀ i, c.fp i → w'.heap[i]? = w.heap[i]?) (hw : c.ok w) : c.ok w' := by
  cases c with
  | blk b o => show w'.heap[b]? = some o; rw [h b rfl]; exact hw
  | own e size v n xs =>
    refine ⟨hw.1, ?_⟩
    rcases hw.2 with hn | ⟨g, off, cap, cur, fr, rfl, hg, rest⟩
    · exact .inl hn
    · exact .inr ⟨g, off, cap, cur, fr, rfl, by rw [h g rfl]; exact hg, rest⟩
  | any A => exact A.stable h hw
theorem Chunk.live (c : Chunk) {w : World} {i : Nat} (hw : c.ok w) (hi : c.fp i) : i < w.heap.size := by
  cases c with
  | blk b o => cases hi; exact (Array.getElem?_eq_some_iff.1 hw).1
  | own e size v n xs => exact OwnR.lt hw hi
  | any A => exact A.live hw hi

def apart (a b : Chunk) : Prop := ∀ i, a.fp i → b.fp i → False

structure Own (w : World) (H : List Chunk) : Prop where
  ok : ∀ c ∈ H, c.ok w
  sep : H.Pairwise apart

structure Upd (w0 w : World) (Cs H : List Chunk) : Prop where
  os : w.os = w0.os
  tape : w.tape = w0.tape
  output : w.output = w0.output
  size : w0.heap.size ≤ w.heap.size
  keep : ∀ i, i < w0.heap.size → (∀ c ∈ Cs, ¬ c.fp i) → w.heap[i]? = w0.heap[i]?
  own : Own w H
  fresh : ∀ c ∈ H, ∀ i, c.fp i → (∃ d ∈ Cs, d.fp i) ∨ w0.heap.size ≤ i

theorem Own.nil (w : World) : Own w [] := ⟨by simp, List.Pairwise.nil⟩
theorem apart.symm {a b : Chunk} (h : apart a b) : apart b a := fun i ha hb => h i hb ha
theorem Upd.refl {w : World} {Cs : List Chunk} (h : Own w Cs) : Upd w w Cs Cs :=
  ⟨rfl, rfl, rfl, Nat.le_refl _, fun _ _ _ => rfl, h, fun c hc i hi => .inl ⟨c, hc, hi⟩⟩
theorem Upd.refl0 (w : World) : Upd w w [] [] := Upd.refl (Own.nil w)

theorem Own.sub {w : World} {H H' : List Chunk} (h : Own w H) (hs : H'.Sublist H) : Own w H' :=
  ⟨fun c hc => h.ok c (hs.subset hc), h.sep.sublist hs⟩
theorem Own.perm {w : World} {H H' : List Chunk} (h : Own w H) (hs : H.Perm H') : Own w H' :=
  ⟨fun c hc => h.ok c (hs.symm.subset hc), (hs.pairwise_iff (fun h => apart.symm h)).1 h.sep⟩

/-- H' is part of H, in whatever order. -/
def Part (H' H : List Chunk) : Prop := ∃ G, (H' ++ G).Perm H
theorem Part.own {w : World} {H H' : List Chunk} (hs : Part H' H) (h : Own w H) : Own w H' := by
  obtain ⟨G, hG⟩ := hs
  exact (h.perm hG.symm).sub (List.sublist_append_left _ _)
theorem Part.mem {H H' : List Chunk} (hs : Part H' H) {c : Chunk} (hc : c ∈ H') : c ∈ H := by
  obtain ⟨G, hG⟩ := hs
  exact hG.subset (List.mem_append_left _ hc)
theorem Part.refl (H : List Chunk) : Part H H := ⟨[], by simp⟩
theorem Part.nil (H : List Chunk) : Part [] H := ⟨H, by simp⟩
theorem Part.here {c : Chunk} {H' H : List Chunk} (h : Part H' H) : Part (c :: H') (c :: H) := by
  obtain ⟨G, hG⟩ := h
  exact ⟨G, hG.cons c⟩
theorem Part.skip {c : Chunk} {H' H : List Chunk} (h : Part H' H) : Part H' (c :: H) := by
  obtain ⟨G, hG⟩ := h
  exact ⟨c :: G, List.perm_middle.trans (hG.cons c)⟩
theorem Upd.part {w0 w : World} {Cs H H' : List Chunk} (h : Upd w0 w Cs H) (hs : Part H' H) : Upd w0 w Cs H' :=
  ⟨h.os, h.tape, h.output, h.size, h.keep, hs.own h.own, fun c hc => h.fresh c (hs.mem hc)⟩

/-- A step that leaves all of H alone, and makes H'. -/
theorem Upd.step {w0 w w' : World} {Cs Gs F H' : List Chunk} (h : Upd w0 w Cs (Gs ++ F)) (k : Upd w w' Gs H') : Upd w0 w' Cs (H' ++ F) := by
  have hsep := List.pairwise_append.1 h.own.sep
  have keepF : ∀ c ∈ F, ∀ i, c.fp i → w'.heap[i]? = w.heap[i]? := fun c hc i hi =>
    k.keep i (c.live (h.own.ok c (List.mem_append_right _ hc)) hi) (fun d hd hdi => hsep.2.2 d hd c hc i hdi hi)
  refine ⟨k.os.trans h.os, k.tape.trans h.tape, k.output.trans h.output, Nat.le_trans h.size k.size, ?_, ⟨?_, ?_⟩, ?_⟩
  · intro i hi hn
    rw [k.keep i (Nat.lt_of_lt_of_le hi h.size), h.keep i hi hn]
    intro d hd hdi
    rcases h.fresh d (List.mem_append_left _ hd) i hdi with ⟨e, he, hei⟩ | hge
    · exact hn e he hei
    · omega
  · intro c hc
    rcases List.mem_append.1 hc with hc | hc
    · exact k.own.ok c hc
    · exact c.stable (fun i hi => keepF c hc i hi) (h.own.ok c (List.mem_append_right _ hc))
  · refine List.pairwise_append.2 ⟨k.own.sep, hsep.2.1, ?_⟩
    intro a ha b hb i hai hbi
    rcases k.fresh a ha i hai with ⟨d, hd, hdi⟩ | hge
    · exact hsep.2.2 d hd b hb i hdi hbi
    · have := b.live (h.own.ok b (List.mem_append_right _ hb)) hbi
      omega
  · intro c hc i hi
    rcases List.mem_append.1 hc with hc | hc
    · rcases k.fresh c hc i hi with ⟨d, hd, hdi⟩ | hge
      · exact h.fresh d (List.mem_append_left _ hd) i hdi
      · exact .inr (Nat.le_trans h.size hge)
    · exact h.fresh c (List.mem_append_right _ hc) i hi
theorem Upd.perm {w0 w : World} {Cs H H' : List Chunk} (h : Upd w0 w Cs H) (hp : H.Perm H') : Upd w0 w Cs H' :=
  h.part ⟨[], by simpa using hp.symm⟩
theorem Upd.below {w w' : World} (h : Upd w w' [] []) : Below w.heap.size w w' :=
  ⟨h.os, h.tape, h.output, h.size, fun i hi => h.keep i hi (by simp)⟩
theorem Upd.below' {w w' : World} {H : List Chunk} (h : Upd w w' [] H) : Below w.heap.size w w' :=
  ⟨h.os, h.tape, h.output, h.size, fun i hi => h.keep i hi (by simp)⟩
theorem Upd.of_below {w w' : World} (h : Below w.heap.size w w') : Upd w w' [] [] :=
  ⟨h.os, h.tape, h.output, h.size, fun i hi _ => h.block i hi, Own.nil _, by simp⟩
theorem Upd.drew {w0 w : World} {Cs H : List Chunk} (h : Upd w0 w Cs H) : Upd w0 w.drew Cs H := by
  have h2 : Upd w w.drew [] [] := ⟨rfl, rfl, rfl, Nat.le_refl _, fun _ _ _ => rfl, Own.nil _, by simp⟩
  exact Upd.step (Gs := []) (H' := []) h h2
theorem Upd.drawn {w0 w : World} {Cs H : List Chunk} (h : Upd w0 w Cs H) : Upd w0 { w with drawn := w.drawn + 1 } Cs H := h.drew

/-- Block b is a variable of these cells. -/
abbrev Chunk.box (b : Nat) (t : TypeId) (cs : List Value) : Chunk := .blk b (.cells cs.toArray t (0, 0))
/-- Piece number i. -/
structure At (H : List Chunk) (i : Nat) (c : Chunk) : Prop where
  eq : H[i]? = some c
theorem At.z {c : Chunk} {H : List Chunk} : At (c :: H) 0 c := ⟨rfl⟩
theorem At.s {c d : Chunk} {H : List Chunk} {i : Nat} (h : At H i c) : At (d :: H) (i + 1) c := ⟨h.eq⟩
theorem At.perm {H : List Chunk} {i : Nat} {c : Chunk} (h : At H i c) : (c :: H.eraseIdx i).Perm H := by
  induction H generalizing i with
  | nil => have := h.eq; simp at this
  | cons d H ih =>
    cases i with
    | zero => have := h.eq; simp at this; subst this; simp
    | succ i =>
      have := ih (i := i) ⟨h.eq⟩
      simp only [List.eraseIdx_cons_succ]
      exact (List.Perm.swap d c _).trans (this.cons d)
theorem At.set {H : List Chunk} {i : Nat} {c : Chunk} (h : At H i c) (c' : Chunk) : (c' :: H.eraseIdx i).Perm (H.set i c') := by
  induction H generalizing i with
  | nil => have := h.eq; simp at this
  | cons d H ih =>
    cases i with
    | zero => simp
    | succ i =>
      have := ih (i := i) ⟨h.eq⟩
      simp only [List.eraseIdx_cons_succ, List.set_cons_succ]
      exact (List.Perm.swap d c' _).trans (this.cons d)
theorem At.ok {H : List Chunk} {i : Nat} {c : Chunk} (h : At H i c) {w0 w : World} {Cs : List Chunk} (hw : Upd w0 w Cs H) : c.ok w :=
  hw.own.ok c (List.mem_of_getElem? h.eq)

/-! ### the frame -/
abbrev Env := Nat → Value
def upd (e : Env) (t : Nat) (v : Value) : Env := fun j => match Nat.beq j t with | true => v | false => e j
def ev (e : Env) : Operand → Value
  | .tmp t => e t
  | .const v => v
  | .global g => .pointer (some ⟨g, 0, none⟩)
  | .func f => .func (.func f) #[] #[]
structure Fits (n : Nat) (e : Env) (a : Act) : Prop where
  size : a.tmps.size = n
  at_ : ∀ j, a.tmps.getD j undef = e j
  defers : a.defers = []
theorem upd_same (e : Env) (t : Nat) (v : Value) : upd e t v t = v := by simp [upd]
theorem upd_ne (e : Env) {t j : Nat} (v : Value) (h : j ≠ t) : upd e t v j = e j := by
  unfold upd
  cases hb : Nat.beq j t with
  | false => rfl
  | true => exact absurd (Nat.eq_of_beq_eq_true hb) h
theorem Fits.eval {n : Nat} {e : Env} {a : Act} (h : Fits n e a) : a.eval = ev e := by
  funext x
  cases x <;> simp only [Act.eval, ev]
  exact h.at_ _
theorem Fits.put {n : Nat} {e : Env} {a : Act} (h : Fits n e a) {t : Nat} (ht : Nat.blt t n = true) (v : Value) : Fits n (upd e t v) (a.put (some t) v) := by
  have ht' : t < n := by simpa [Nat.blt_eq] using ht
  refine ⟨by simp [Act.put, h.size], fun j => ?_, by simp [Act.put, h.defers]⟩
  by_cases hj : j = t
  · subst hj
    rw [upd_same]
    simp [Act.put, h.size, ht']
  · rw [upd_ne e v hj, ← h.at_ j]
    simp [Act.put, Array.getElem?_setIfInBounds_ne (Ne.symm hj)]
theorem Fits.put_none {n : Nat} {e : Env} {a : Act} (h : Fits n e a) (v : Value) : Fits n e (a.put none v) := h
theorem Fits.yielded {n : Nat} {e : Env} {a : Act} (h : Fits n e a) {ops : Array Oper} {j d : Nat} {b : Bool} (hd : (ops[j]?).bind (·.dst) = some d) (hv : e d = .bool b) (hn : Nat.blt d n = true) : Go.yielded ops a.tmps j = some b := by
  have ht' : d < a.tmps.size := by rw [h.size]; simpa [Nat.blt_eq] using hn
  have h1 : a.tmps[d]? = some (.bool b) := by
    have h2 := h.at_ d
    rw [hv] at h2
    simp [ht'] at h2
    simp [ht', h2]
  unfold Go.yielded
  rw [hd]
  simp [h1]
/-- The frame e, known anew at some slots over e0: those of D may hold anything. -/
def mix (D : List Nat) (u e0 : Env) : Env := fun j => match D.elem j with | true => u j | false => e0 j
def setL (e : Env) : List (Nat × Value) → Env
  | [] => e
  | (t, v) :: r => upd (setL e r) t v

/-! ### the judgements -/
section
variable (P : Program) (n : Nat) (ops : Array Oper) (w0 : World) (Cs : List Chunk)
/-- What comes of a function's call. -/
def Enters (P : Program) (f : FuncId) : Prop := ∃ fn, P.funcs[f]? = some fn ∧ (fn.name == "runtime.NumGoroutine") = false ∧ fn.body.isNone = false
def Spec (P : Program) (f : FuncId) (args : Array Value) (w : World) (Gs : List Chunk) (Post : Value → List Chunk → Prop) : Prop :=
  Enters P f ∧ Calls P f args w fun e w' => ∃ v H', e = .returned v ∧ Upd w w' Gs H' ∧ Post v H'
/-- One operation that only computes or reads, in whatever world of the class. -/
def Ev (H : List Chunk) (e : Env) (op : Op) (ty : TypeId) (v : Value) : Prop :=
  ∀ w, Upd w0 w Cs H → ∀ d pos af g, (execOp (ev e) ⟨d, op, ty, pos, af, g⟩).run P w = .ok (.value v) w
/-- One operation that makes or writes memory. -/
def Ef (H : List Chunk) (e : Env) (op : Op) (ty : TypeId) (R : Value → List Chunk → Prop) : Prop :=
  ∀ w, Upd w0 w Cs H → ∀ d pos af g, ∃ v w' H', ((execOp (ev e) ⟨d, op, ty, pos, af, g⟩).run P w = .ok (.value v) w' ∨ ((execOp (ev e) ⟨d, op, ty, pos, af, g⟩).run P w = .ok .skip w' ∧ v = undef)) ∧ Upd w0 w' Cs H' ∧ R v H'
def Seq (l : List Oper) (H : List Chunk) (e : Env) (K : Env → List Chunk → Prop) : Prop :=
  ∀ a w, Fits n e a → Upd w0 w Cs H → wpList P ops (fun x a' w' => x = .normal ∧ ∃ e' H', Fits n e' a' ∧ Upd w0 w' Cs H' ∧ K e' H') l a w
def Qui (H : List Chunk) (l : List Oper) (e : Env) (K : Env → Prop) : Prop :=
  ∀ a, Fits n e a → wpQuiet P ops (fun w => Upd w0 w Cs H) (fun a' => ∃ e', Fits n e' a' ∧ K e') l a
def JC (c : Code) (H : List Chunk) (e : Env) (Q : Exit → Env → List Chunk → Prop) : Prop :=
  ∀ a w, Fits n e a → Upd w0 w Cs H → c.wp P (fun x a' w' => ∃ e' H', Fits n e' a' ∧ Upd w0 w' Cs H' ∧ Q x e' H') a w
end

section
variable {P : Program} {n : Nat} {ops : Array Oper} {w0 : World} {Cs H : List Chunk} {e : Env} {K : Env → List Chunk → Prop} {rest : List Oper}
  {t : Nat} {op : Op} {ty : TypeId} {pos : String} {af : Array Edge} {v : Value}
theorem wanted_none {o : Oper} (h : o.guard = none) (f : Nat → Option Bool) : Region.wanted o f = true := by simp [Region.wanted, h]
theorem Seq.nil (h : K e H) : Seq P n ops w0 Cs [] H e K := fun a w hf hw => ⟨rfl, e, H, hf, hw, h⟩
theorem Seq.p (ht : Nat.blt t n = true) (h : Ev P w0 Cs H e op ty v) (k : Seq P n ops w0 Cs rest H (upd e t v) K) :
    Seq P n ops w0 Cs (⟨some t, op, ty, pos, af, none⟩ :: rest) H e K := by
  intro a w hf hw
  simp only [wpList]
  rw [if_pos (wanted_none rfl _)]
  refine .inl ?_
  simp only [Oper.wp, hf.eval, h w hw, Oper.upon]
  exact k _ w (hf.put ht v) hw
theorem Seq.p0 (h : Ev P w0 Cs H e op ty v) (k : Seq P n ops w0 Cs rest H e K) :
    Seq P n ops w0 Cs (⟨none, op, ty, pos, af, none⟩ :: rest) H e K := by
  intro a w hf hw
  simp only [wpList]
  rw [if_pos (wanted_none rfl _)]
  refine .inl ?_
  simp only [Oper.wp, hf.eval, h w hw, Oper.upon]
  exact k _ w hf hw
theorem Seq.f {R : Value → List Chunk → Prop} (ht : Nat.blt t n = true) (h : Ef P w0 Cs H e op ty R) (k : ∀ v H', R v H' → Seq P n ops w0 Cs rest H' (upd e t v) K) :
    Seq P n ops w0 Cs (⟨some t, op, ty, pos, af, none⟩ :: rest) H e K := by
  intro a w hf hw
  simp only [wpList]
  rw [if_pos (wanted_none rfl _)]
  refine .inl ?_
  obtain ⟨v, w', H', hr, hu, hR⟩ := h w hw (some t) pos af none
  rcases hr with hr | ⟨hr, rfl⟩
  · simp only [Oper.wp, hf.eval, hr, Oper.upon]
    exact k _ _ hR _ w' (hf.put ht v) hu
  · simp only [Oper.wp, hf.eval, hr, Oper.upon]
    exact k _ _ hR _ w' (hf.put ht undef) hu
theorem Seq.f0 {R : Value → List Chunk → Prop} (h : Ef P w0 Cs H e op ty R) (k : ∀ v H', R v H' → Seq P n ops w0 Cs rest H' e K) :
    Seq P n ops w0 Cs (⟨none, op, ty, pos, af, none⟩ :: rest) H e K := by
  intro a w hf hw
  simp only [wpList]
  rw [if_pos (wanted_none rfl _)]
  refine .inl ?_
  obtain ⟨v, w', H', hr, hu, hR⟩ := h w hw none pos af none
  rcases hr with hr | ⟨hr, rfl⟩
  · simp only [Oper.wp, hf.eval, hr, Oper.upon]
    exact k _ _ hR _ w' hf hu
  · simp only [Oper.wp, hf.eval, hr, Oper.upon]
    exact k _ _ hR _ w' hf hu
/-- A guarded operation that is wanted, or that is not. -/
theorem Seq.gy {g : Nat × Bool} {d : Nat} (hd : (ops[g.1]?).bind (·.dst) = some d) (hn : Nat.blt d n = true) (hg : e d = .bool g.2)
    (k : Seq P n ops w0 Cs (⟨some t, op, ty, pos, af, none⟩ :: rest) H e K) :
    Seq P n ops w0 Cs (⟨some t, op, ty, pos, af, some g⟩ :: rest) H e K := by
  intro a w hf hw
  have h := k a w hf hw
  have hy := hf.yielded hd hg hn
  simp only [wpList] at h ⊢
  rw [if_pos (wanted_none rfl _)] at h
  rw [if_pos (by simp [Region.wanted, hy])]
  exact h
theorem Seq.gn {g : Nat × Bool} {d : Nat} (hd : (ops[g.1]?).bind (·.dst) = some d) (hn : Nat.blt d n = true) (hg : e d = .bool (!g.2)) (ht : Nat.blt t n = true)
    (k : Seq P n ops w0 Cs rest H (upd e t undef) K) :
    Seq P n ops w0 Cs (⟨some t, op, ty, pos, af, some g⟩ :: rest) H e K := by
  intro a w hf hw
  have hy := hf.yielded hd hg hn
  simp only [wpList]
  rw [if_neg (by simp [Region.wanted, hy])]
  exact k _ w (hf.put ht undef) hw
theorem Seq.gu {g : Nat × Bool} {d : Nat} (hd : (ops[g.1]?).bind (·.dst) = some d) (hg : e d = undef) (ht : Nat.blt t n = true)
    (k : Seq P n ops w0 Cs rest H (upd e t undef) K) :
    Seq P n ops w0 Cs (⟨some t, op, ty, pos, af, some g⟩ :: rest) H e K := by
  intro a w hf hw
  have hy : Go.yielded ops a.tmps g.1 = none := by
    unfold Go.yielded
    rw [hd]
    have h2 := hf.at_ d
    rw [hg] at h2
    simp only [Option.bind_some]
    cases h3 : a.tmps[d]? with
    | none => rfl
    | some u =>
      simp [h3] at h2
      subst h2
      rfl
  simp only [wpList]
  rw [if_neg (by simp [Region.wanted, hy])]
  exact k _ w (hf.put ht undef) hw
end
end Go.Rx
