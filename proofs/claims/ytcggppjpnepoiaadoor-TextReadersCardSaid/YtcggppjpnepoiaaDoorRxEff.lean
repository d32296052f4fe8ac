/- The rule layer, fifth part: operations that make or write memory. -/
import Derived.Test.YtcggppjpnepoiaaDoorRxMem
import Derived.Deep.AppendSrc
namespace Go.Rx
open Go Go.RowKit
set_option linter.unusedVariables false
set_option linter.unusedSimpArgs false

/-! ### steps of the world -/
theorem Upd.alloc {w0 w : World} {Cs H : List Chunk} (h : Upd w0 w Cs H) (o : Obj) : Upd w0 (w.alloc o) Cs (.blk w.heap.size o :: H) := by
  have h2 : Upd w (w.alloc o) [] [.blk w.heap.size o] := by
    refine ⟨rfl, rfl, rfl, by simp, fun i hi _ => Below.heap_alloc w o i hi, ⟨?_, List.pairwise_singleton _ _⟩, ?_⟩
    · intro c hc
      simp at hc
      subst hc
      exact heap_alloc_new w o
    · intro c hc i hi
      simp at hc
      subst hc
      exact .inr (Nat.le_of_eq hi.symm)
  exact Upd.step (Gs := []) (H' := [_]) h h2
theorem Upd.blk {w w' : World} {b : Nat} {o o' : Obj} (ho : w.heap[b]? = some o) (h1 : w'.os = w.os) (h2 : w'.tape = w.tape) (h3 : w'.output = w.output) (hs : w.heap.size ≤ w'.heap.size) (hb : w'.heap[b]? = some o') (hn : ∀ i, i ≠ b → i < w.heap.size → w'.heap[i]? = w.heap[i]?) :
    Upd w w' [.blk b o] [.blk b o'] := by
  refine ⟨h1, h2, h3, hs, fun i hi hne => hn i (fun h => hne (.blk b o) (by simp) h) hi, ⟨?_, List.pairwise_singleton _ _⟩, ?_⟩
  · intro c hc
    simp at hc
    subst hc
    exact hb
  · intro c hc i hi
    simp at hc
    subst hc
    exact .inl ⟨.blk b o, by simp, hi⟩
/-- One piece is turned into another one, of the same blocks or of new ones. -/
theorem Upd.at_ {w0 w w' : World} {Cs H : List Chunk} {i : Nat} {c c' : Chunk} (h : Upd w0 w Cs H) (hi : At H i c) (k : Upd w w' [c] [c']) : Upd w0 w' Cs (H.set i c') := by
  have h2 : Upd w0 w Cs ([c] ++ H.eraseIdx i) := h.perm (At.perm hi).symm
  exact (Upd.step h2 k).perm (At.set hi c')
theorem Upd.row {w : World} {b : Nat} {cur cs : List Value} {t : TypeId} (ho : w.heap[b]? = some (.cells cur.toArray t (0, 0))) : Upd w (w.setRow b cs.toArray) [.box b t cur] [.box b t cs] :=
  Upd.blk ho rfl rfl rfl (by simp) (setRow_heap w b _ _ _ _ ho) (fun i hi _ => setRow_other w b i _ hi)
theorem Upd.grown {w w' : World} {e size n n' : Nat} {v v' : Value} {xs xs' : List Value} (hg : w.grownBy w' v.ownBlock) (ho : OwnR w' e size v' n' xs') (hv : ∀ k, v'.ownBlock = some k → v.ownBlock = some k ∨ w.heap.size ≤ k) :
    Upd w w' [.own e size v n xs] [.own e size v' n' xs'] := by
  refine ⟨hg.os, hg.tape, hg.output, hg.size, fun i hi hne => hg.block i hi (fun h => hne (.own e size v n xs) (by simp) h.symm), ⟨?_, List.pairwise_singleton _ _⟩, ?_⟩
  · intro c hc
    simp at hc
    subst hc
    exact ho
  · intro c hc i hi
    simp at hc
    subst hc
    rcases hv i hi with h | h
    · exact .inl ⟨.own e size v n xs, by simp, h⟩
    · exact .inr h
theorem Upd.nilOwn {w0 w : World} {Cs H : List Chunk} (h : Upd w0 w Cs H) (e : TypeId) (size : Nat) : Upd w0 w Cs (.own e size (.slice none 0 0) 0 [] :: H) := by
  refine ⟨h.os, h.tape, h.output, h.size, h.keep, ⟨?_, ?_⟩, ?_⟩
  · intro c hc
    rcases List.mem_cons.1 hc with rfl | hc
    · exact OwnR.nil w e size
    · exact h.own.ok c hc
  · refine List.pairwise_cons.2 ⟨?_, h.own.sep⟩
    intro a _ i hi
    simp [Chunk.fp, Value.ownBlock] at hi
  · intro c hc i hi
    rcases List.mem_cons.1 hc with rfl | hc
    · simp [Chunk.fp, Value.ownBlock] at hi
    · exact h.fresh c hc i hi
/-- A variable that is a row of elements, as a slice of the call's own. -/
theorem Upd.boxOwn {w0 w : World} {Cs H : List Chunk} {i b n size : Nat} {t : TypeId} {cs : List Value} (h : Upd w0 w Cs H) (hi : At H i (.box b t cs)) (hl : cs.length = n * size) (hn : n ≤ 4611686018427387904) : Upd w0 w Cs (H.set i (.own t size (.slice (some ⟨b, 0, none⟩) n n) n cs)) := by
  refine h.at_ hi ?_
  have ho : w.heap[b]? = some (.cells cs.toArray t (0, 0)) := hi.ok h
  refine ⟨rfl, rfl, rfl, Nat.le_refl _, fun _ _ _ => rfl, ⟨?_, List.pairwise_singleton _ _⟩, ?_⟩
  · intro c hc
    simp at hc
    subst hc
    refine ⟨hl, .inr ⟨b, 0, n, cs.toArray, (0, 0), rfl, ho, Nat.le_refl _, by simp only [maxLen]; omega, by simp [hl], by intro j _ _ h; simp at h, ?_⟩⟩
    simp [← hl]
  · intro c hc j hj
    simp at hc
    subst hc
    simp [Chunk.fp, Value.ownBlock] at hj
    exact .inl ⟨.box b t cs, by simp, hj.symm⟩

section
variable {P : Program} {n : Nat} {ops : Array Oper} {w0 : World} {Cs H : List Chunk} {e : Env} {K : Env → List Chunk → Prop} {rest : List Oper} {t : Nat} {ty : TypeId} {pos : String} {af : Array Edge} {x y : Operand} {Q : Exit → Env → List Chunk → Prop}
/-- Memory seen otherwise. -/
theorem Seq.re {l : List Oper} {H' : List Chunk} (h : ∀ w, Upd w0 w Cs H → Upd w0 w Cs H') (k : Seq P n ops w0 Cs l H' e K) : Seq P n ops w0 Cs l H e K := fun a w hf hw => k a w hf (h w hw)
theorem JC.re {c : Code} {H' : List Chunk} (h : ∀ w, Upd w0 w Cs H → Upd w0 w Cs H') (k : JC P n w0 Cs c H' e Q) : JC P n w0 Cs c H e Q := fun a w hf hw => k a w hf (h w hw)

theorem run_newVar (P : Program) (t : TypeId) (v : Value) (w : World) : (newVar t v).run P w = .ok ⟨w.heap.size, 0, none⟩ (w.alloc (.cells v.cells t)) := by
  rfl
def cellsL : Value → List Value
  | .agg cs => cs.toList
  | v => [v]
theorem cellsL_eq (v : Value) : v.cells = (cellsL v).toArray := by cases v <;> rfl
/-- A parameter or a local that has an address: 'box'. -/
theorem Seq.box {el : TypeId} {v : Value} {cs : List Value} (ht : Nat.blt t n = true := by rfl) (hx : Look e x v := by repeat (first | exact Look.here | apply Look.there (hne := rfl) | exact Look.const | apply Look.mix rfl | exact Look.arg0 | apply Look.args | exact Look.func)) (hcs : cellsL v = cs := by rfl)
    (k : ∀ b, Seq P n ops w0 Cs rest (.box b el cs :: H) (upd e t (.pointer (some ⟨b, 0, none⟩))) K) :
    Seq P n ops w0 Cs (⟨some t, .box el x, ty, pos, af, none⟩ :: rest) H e K := by
  refine Seq.f ht (R := fun v H' => ∃ b, v = .pointer (some ⟨b, 0, none⟩) ∧ H' = .box b el cs :: H) ?_ ?_
  · intro w hw d pos af g
    refine ⟨_, _, _, .inl ?_, Upd.alloc hw (.cells cs.toArray el), _, rfl, rfl⟩
    replace hx := hx.eq
    simp [execOp, hx, Instr.box, run_newVar, cellsL_eq, hcs]
  · rintro v H' ⟨b, rfl, rfl⟩
    exact k b
def zeroOf (P : Program) (t : TypeId) : Option Value := (P.info? t).bind (·.zero)
theorem Seq.alloc {el : TypeId} {v : Value} {cs : List Value} (ht : Nat.blt t n = true := by rfl) (hz : zeroOf P el = some v) (hcs : cellsL v = cs := by rfl)
    (k : ∀ b, Seq P n ops w0 Cs rest (.box b el cs :: H) (upd e t (.pointer (some ⟨b, 0, none⟩))) K) :
    Seq P n ops w0 Cs (⟨some t, .alloc el, ty, pos, af, none⟩ :: rest) H e K := by
  refine Seq.f ht (R := fun v H' => ∃ b, v = .pointer (some ⟨b, 0, none⟩) ∧ H' = .box b el cs :: H) ?_ ?_
  · intro w hw d pos af g
    refine ⟨_, _, _, .inl ?_, Upd.alloc hw (.cells cs.toArray el), _, rfl, rfl⟩
    unfold zeroOf at hz
    cases hi : P.info? el with
    | none => simp [hi] at hz
    | some i =>
      simp [hi] at hz
      simp [execOp, Instr.alloc, zeroValue, typeInfo, hi, hz, run_newVar, cellsL_eq, hcs]
  · rintro v H' ⟨b, rfl, rfl⟩
    exact k b
/-- A store into a variable of the call's own: of one cell, or of a whole struct or array. -/
theorem run_storeBox {b off : Nat} {tb el : TypeId} {cs : List Value} {v : Value} {vs : List Value} {m : Nat} {w : World} (hsz : szOf P el m = true) (hvs : cellsL v = vs) (hm : vs.length = m) (h1 : ∀ u ∈ vs, u.oneCell' = true) (hfit : off + vs.length ≤ cs.length)
    (hb : w.heap[b]? = some (.cells cs.toArray tb (0, 0))) : (Instr.storeAt el (.pointer (some ⟨b, off, none⟩)) v).run P w = .ok () (w.setRow b (cs.take off ++ vs ++ cs.drop (off + vs.length)).toArray) := by
  have hst := run_storeCells_at P b off tb vs 0 cs.toArray w hb (by simpa using hfit) h1
  simp only [Nat.add_zero] at hst
  simp [Instr.storeAt, Instr.sureAddr, storeVar, cellsL_eq, hvs, szOf_run hsz, hm, hst]
theorem Seq.store {el tb : TypeId} {b off i m : Nat} {cs vs : List Value} {v : Value} (hsz : szOf P el m = true) (hx : Look e x (.pointer (some ⟨b, off, none⟩)) := by repeat (first | exact Look.here | apply Look.there (hne := rfl) | exact Look.const | apply Look.mix rfl | exact Look.arg0 | apply Look.args | exact Look.func)) (hy : Look e y v := by repeat (first | exact Look.here | apply Look.there (hne := rfl) | exact Look.const | apply Look.mix rfl | exact Look.arg0 | apply Look.args | exact Look.func)) (hvs : cellsL v = vs := by rfl) (hm : vs.length = m := by rfl)
    (h1 : (vs.all fun u => u.oneCell') = true := by rfl)
    (hH : At H i (.box b tb cs) := by repeat (first | exact At.z | apply At.s)) (hfit : Nat.ble (off + vs.length) cs.length = true := by rfl)
    (k : Seq P n ops w0 Cs rest (H.set i (.box b tb (cs.take off ++ vs ++ cs.drop (off + vs.length)))) e K) :
    Seq P n ops w0 Cs (⟨none, .store el x y, ty, pos, af, none⟩ :: rest) H e K := by
  refine Seq.f0 (R := fun v H' => H' = H.set i (.box b tb (cs.take off ++ vs ++ cs.drop (off + vs.length)))) ?_ ?_
  · intro w hw d pos af g
    have hb : w.heap[b]? = some (.cells cs.toArray tb (0, 0)) := hH.ok hw
    replace hx := hx.eq
    replace hy := hy.eq
    refine ⟨undef, _, _, .inr ⟨?_, rfl⟩, Upd.at_ hw hH (Upd.row hb), rfl⟩
    simp [execOp, hx, hy, run_storeBox hsz hvs hm (List.all_eq_true.1 h1) (by simpa using hfit) hb]
  · rintro v H' rfl
    exact k
/-- The same where the cells are given by what they become. -/
theorem Seq.storeTo {el tb : TypeId} {b off i m : Nat} {cs vs cs' : List Value} {v : Value} (hsz : szOf P el m = true) (hx : Look e x (.pointer (some ⟨b, off, none⟩)) := by repeat (first | exact Look.here | apply Look.there (hne := rfl) | exact Look.const | apply Look.mix rfl | exact Look.arg0 | apply Look.args | exact Look.func)) (hy : Look e y v := by repeat (first | exact Look.here | apply Look.there (hne := rfl) | exact Look.const | apply Look.mix rfl | exact Look.arg0 | apply Look.args | exact Look.func)) (hvs : cellsL v = vs := by rfl) (hm : vs.length = m := by rfl)
    (h1 : (vs.all fun u => u.oneCell') = true := by rfl) (hH : At H i (.box b tb cs) := by repeat (first | exact At.z | apply At.s)) (hfit : off + vs.length ≤ cs.length) (hcs : cs.take off ++ vs ++ cs.drop (off + vs.length) = cs')
    (k : Seq P n ops w0 Cs rest (H.set i (.box b tb cs')) e K) :
    Seq P n ops w0 Cs (⟨none, .store el x y, ty, pos, af, none⟩ :: rest) H e K := by
  subst hcs
  exact Seq.store hsz hx hy hvs hm h1 hH (by simpa using hfit) k
end

/-! ### slices of the call's own -/
def elOf (P : Program) (el : TypeId) (size bytes : Nat) : Bool := match P.info? el with | some i => i.size == size && i.bytes == bytes && decide (0 < size) && (match i.zero with | some z => z.cells.size == size | none => false) | none => false
theorem elOf_parts {P : Program} {el : TypeId} {size bytes : Nat} (h : elOf P el size bytes = true) : ∃ i z, P.info? el = some i ∧ i.size = size ∧ i.bytes = bytes ∧ 0 < size ∧ i.zero = some z ∧ z.cells.size = size := by
  unfold elOf at h
  split at h
  · rename_i i hi
    simp only [Bool.and_eq_true, beq_iff_eq, decide_eq_true_eq] at h
    obtain ⟨⟨⟨h1, h2⟩, h3⟩, h4⟩ := h
    split at h4
    · rename_i z hz
      exact ⟨i, z, hi, h1, h2, h3, hz, by simpa using h4⟩
    · cases h4
  · cases h
/-- Cells stored where none is frozen. -/
theorem run_storeCells_fr {P : Program} (g o : Nat) (t : TypeId) (fr : Nat × Nat) : ∀ (vs : List Value) (i : Nat) (cur : Array Value) (w : World), w.heap[g]? = some (.cells cur t fr) → o + i + vs.length ≤ cur.size → (∀ j, o + i ≤ j → j < o + i + vs.length → ¬ (fr.1 ≤ j ∧ j < fr.2)) → (∀ v ∈ vs, v.oneCell' = true) →
    (storeCells ⟨g, o, none⟩ vs i).run P w = .ok () (w.setRow g (cur.toList.take (o + i) ++ vs ++ cur.toList.drop (o + i + vs.length)).toArray)
  | [], i, cur, w, hg, _, _, _ => by
    simp only [storeCells, List.append_nil, List.length_nil, Nat.add_zero, List.take_append_drop, Array.toArray_toList]
    rw [setRow_self w g cur t fr hg]
    rfl
  | v :: rest, i, cur, w, hg, hl, hfr, h1 => by
    have hi : o + i < cur.size := by simp at hl; omega
    have hadd : (⟨g, o, none⟩ : Addr).add i = ⟨g, o + i, none⟩ := by unfold Addr.add; split <;> simp_all
    have hcell : w.cell? ⟨g, o + i, none⟩ = some cur[o + i] := by simp [World.cell?, hg, hi]
    have hfro : w.frozen? ⟨g, o + i, none⟩ = false := by
      have := hfr (o + i) (Nat.le_refl _) (by simp)
      obtain ⟨lo, hi'⟩ := fr
      simp only [World.frozen?, hg]
      simp only at this
      cases hd : (decide (lo ≤ o + i) && decide (o + i < hi')) with
      | false => rfl
      | true => simp at hd; exact absurd hd this
    have hst : (store ((⟨g, o, none⟩ : Addr).add i) v).run P w = .ok () (w.setRow g (cur.setIfInBounds (o + i) v)) := by
      rw [hadd, run_store P w _ v _ (h1 v (by simp)), hcell]
      simp [hfro, setCell_eq_setRow w g (o + i) cur t fr v hg]
    have ih := run_storeCells_fr (P := P) g o t fr rest (i + 1) (cur.setIfInBounds (o + i) v) (w.setRow g (cur.setIfInBounds (o + i) v)) (setRow_heap w g cur _ t _ hg) (by simp at hl ⊢; omega) (fun j h2 h3 => hfr j (by omega) (by simp; omega)) (fun x hx => h1 x (by simp [hx]))
    simp only [storeCells, Sem.run_bind, hst, Result.andThen_ok, ih, setRow_setRow]
    congr 3
    have e := list_seg_step cur.toList (o + i) v rest (by simp at hl ⊢; omega)
    simpa [Array.toList_setIfInBounds, Nat.add_assoc] using e
theorem OwnR.cells {w : World} {el : TypeId} {size g off cap n : Nat} {xs : List Value} (h : OwnR w el size (.slice (some ⟨g, off, none⟩) n cap) n xs) (j : Nat) (u : Value) (hu : xs[j]? = some u) : w.cell? ⟨g, off + j, none⟩ = some u := by
  rcases h.2 with ⟨h0, _⟩ | ⟨g', off', cap', cur, fr, he, hg, hnc, hcm, hcs, hfr, htake⟩
  · cases h0
  · cases he
    have hj : j < n * size := by
      have := (List.getElem?_eq_some_iff.1 hu).1
      rw [h.1] at this
      exact this
    rw [← htake, List.getElem?_take_of_lt hj, List.getElem?_drop, Array.getElem?_toList] at hu
    simp [World.cell?, hg, hu]
theorem run_append_src {P : Program} (w : World) {t tx ty el : TypeId} {size bytes : Nat} (ht : P.underlying t = some (.slice el)) (he : elOf P el size bytes = true) {v : Value} {n : Nat} {xs : List Value} (hown : OwnR w el size v n xs)
    {x : Value} {m : Nat} {news : List Value} (hs : Src P size tx x m news w) (h63 : n + m ≤ 4611686018427387904) (hb : (n + m) * bytes ≤ 140737488355328) :
    ∃ v' w', (Builtin.append_ #[t, tx] ty #[v, x]).run P w = .ok v' w' ∧ OwnR w' el size v' (n + m) (xs ++ news) ∧ w.grownBy w' v.ownBlock ∧ (∀ k, v'.ownBlock = some k → v.ownBlock = some k ∨ w.heap.size ≤ k) := by
  obtain ⟨i, z, hi, rfl, rfl, hpos, hz, hzs⟩ := elOf_parts he
  have hlen : (xs ++ news).length = (n + m) * i.size := by rw [List.length_append, hown.1, hs.newsLen, Nat.add_mul]
  have grown : ∀ (old : Nat) (row : Option Nat), old < n + m →
      OwnR (w.drew.alloc (.cells ((xs ++ news).toArray ++ Builtin.zeroCells z.cells (grownCap w (n + m) old el - (n + m))) el)) el i.size
        (.slice (some ⟨w.heap.size, 0, none⟩) (n + m) (grownCap w (n + m) old el)) (n + m) (xs ++ news) ∧
      w.grownBy (w.drew.alloc (.cells ((xs ++ news).toArray ++ Builtin.zeroCells z.cells (grownCap w (n + m) old el - (n + m))) el)) row := by
    intro old row ho
    have hge := grownCap_ge w (n + m) old el
    have hcm : grownCap w (n + m) old el ≤ maxLen := grownCap_le_maxLen w (n + m) old el (by simp only [maxLen]; omega)
    refine ⟨⟨hlen, .inr ⟨w.heap.size, 0, _, _, (0, 0), rfl, heap_alloc_new w.drew _, hge, hcm, ?_, by intro j _ _ h; simp at h, ?_⟩⟩, ⟨rfl, rfl, rfl, by simp, fun k hk _ => Below.heap_alloc w.drew _ k hk⟩⟩
    · rw [Array.size_append, List.size_toArray, size_zeroCells, hzs, hlen, ← Nat.add_mul, Nat.zero_add]
      exact Nat.mul_le_mul_right _ (by omega)
    · rw [Array.toList_append, ← hlen, List.drop_zero]
      exact List.take_left
  rcases hown.2 with ⟨rfl, rfl⟩ | ⟨g, off, cap, cur, fr, rfl, hg, hnc, hcm, hcs, hfr, htake⟩
  · have hx : xs = [] := List.eq_nil_of_length_eq_zero (by simpa using hown.1)
    subst hx
    by_cases hm : m = 0
    · subst hm
      have hn : news = [] := List.eq_nil_of_length_eq_zero (by simpa using hs.newsLen)
      subst hn
      refine ⟨.slice none 0 0, w, ?_, OwnR.nil w el i.size, ⟨rfl, rfl, rfl, Nat.le_refl _, fun _ _ _ => rfl⟩, by simp [Value.ownBlock]⟩
      rcases hs.kind with ⟨e', hk⟩ | hk <;> simp [Builtin.append_, run_underlying ht, run_underlying hk, sizeOf, typeInfo, hi, hs.len, hs.cells]
    · have hr := run_append_grow_src (P := P) w t tx ty el i z ht hi hz none 0 0 [] (by simp [Builtin.firstCells]) x m news hs (by omega) (by omega) (growslice_fits (by omega) hb)
      have hg := grown 0 (Value.ownBlock (.slice none 0 0)) (by omega)
      exact ⟨_, _, hr, hg.1, hg.2, fun k hk => .inr (by simp [Value.ownBlock] at hk; omega)⟩
  · by_cases hroom : n + m ≤ cap
    · have hmul : (n + m) * i.size ≤ cap * i.size := Nat.mul_le_mul_right _ hroom
      have hnl := hs.newsLen
      have hfit : n * i.size + news.length ≤ cap * i.size := by rw [hnl, ← Nat.add_mul]; exact hmul
      have hst := run_storeCells_fr (P := P) g (off + n * i.size) el fr news 0 cur w hg (by omega) (fun j h1 h2 => hfr j (by omega) (by omega)) hs.one
      simp only [Nat.add_zero] at hst
      have hr2 : (Builtin.append_ #[t, tx] ty #[.slice (some ⟨g, off, none⟩) n cap, x]).run P w = .ok (.slice (some ⟨g, off, none⟩) (n + m) cap) (w.setRow g (cur.toList.take (off + n * i.size) ++ news ++ cur.toList.drop (off + n * i.size + news.length)).toArray) := by
        have hadd : (⟨g, off, none⟩ : Addr).add (n * i.size) = ⟨g, off + n * i.size, none⟩ := by unfold Addr.add; split <;> simp_all
        rcases hs.kind with ⟨e', hk⟩ | hk <;> simp [Builtin.append_, run_underlying ht, run_underlying hk, sizeOf, typeInfo, hi, hs.len, hroom, hs.cells, hadd, hst]
      have h4 : (cur.toList.take (off + n * i.size)).length = off + n * i.size := by
        rw [List.length_take, Array.length_toList (xs := cur)]; omega
      refine ⟨_, _, hr2, ⟨hlen, .inr ⟨g, off, cap, _, fr, rfl, setRow_heap w g _ _ _ _ hg, hroom, hcm, ?_, hfr, ?_⟩⟩, ⟨rfl, rfl, rfl, by simp, fun k hk hne => setRow_other w g k _ (fun h => hne (by simp [Value.ownBlock, h]))⟩, fun k hk => .inl hk⟩
      · rw [List.size_toArray, List.length_append, List.length_append, h4, List.length_drop, Array.length_toList (xs := cur)]
        omega
      · show List.take ((n + m) * i.size) (List.drop off (cur.toList.take (off + n * i.size) ++ news ++ cur.toList.drop (off + n * i.size + news.length))) = _
        rw [List.append_assoc, List.drop_append_of_le_length (by rw [h4]; omega)]
        have h5 : List.drop off (cur.toList.take (off + n * i.size)) = xs := by
          rw [List.drop_take, ← htake]
          congr 1
          omega
        rw [h5, ← List.append_assoc, ← hlen, List.take_left]
    · have hold : (Builtin.firstCells i.size n (.slice (some ⟨g, off, none⟩) n cap)).run P w.drew = .ok xs.toArray w.drew := by
        refine run_firstCells_some w.drew i.size n ⟨g, off, none⟩ n cap xs hown.1 ?_
        intro j u hu
        have h2 : (⟨g, off, none⟩ : Addr).add j = ⟨g, off + j, none⟩ := by unfold Addr.add; split <;> simp_all
        rw [h2]
        exact hown.cells j u hu
      have hr := run_append_grow_src (P := P) w t tx ty el i z ht hi hz (some ⟨g, off, none⟩) n cap xs hold x m news hs (by omega) (by omega) (by
        have h1 : (n + m) * i.bytes ≤ 140737488355328 := hb
        exact growslice_fits (by omega) h1)
      have hg' := grown cap (Value.ownBlock (.slice (some ⟨g, off, none⟩) n cap)) (by omega)
      exact ⟨_, _, hr, hg'.1, hg'.2, fun k hk => .inr (by simp [Value.ownBlock] at hk; omega)⟩
end Go.Rx
