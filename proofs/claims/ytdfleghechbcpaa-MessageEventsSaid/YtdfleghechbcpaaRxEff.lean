/- The rule layer, fifth part: operations that make or write memory. -/
import Derived.Test.YtdfleghechbcpaaRxMem
import Derived.Deep.AppendSrc
namespace Go.Rx
open Go Go.RowKit
set_option linter.unusedVariables false
set_option linter.unusedSimpArgs false

/-! ### steps of the world -/
theorem Upd.alloc {w0 w : World} {Cs H : List Chunk} (h : Upd w0 w Cs H) (o : Obj) : Upd w0 (w.alloc o) Cs (.blk w.heap.size o :: H) := by
  have h2 : Upd w (w.alloc o) [] [.blk w.heap.size o] := by
    refine ⟨rfl, rfl, rfl, by simp, fun i hi _ => Below.heap_alloc w o i hi, ⟨?_, List.pairwise_singleton _ _⟩, ?_⟩
    · intro c hc
      simp at hc
      subst hc
      exact heap_alloc_new w o
    · intro c hc i hi
      simp at hc
      subst hc
      exact .inr (Nat.le_of_eq hi.symm)
  exact Upd.step (Gs := []) (H' := [_]) h h2
theorem Upd.blk {w w' : World} {b : Nat} {o o' : Obj} (ho : w.heap[b]? = some o) (h1 : w'.os = w.os) (h2 : w'.tape = w.tape) (h3 : w'.output = w.output) (hs : w.heap.size ≤ w'.heap.size) (hb : w'.heap[b]? = some o') (hn : ∀ i, i ≠ b → i < w.heap.size → w'.heap[i]? = w.heap[i]?) :
    Upd w w' [.blk b o] [.blk b o'] := by
  refine ⟨h1, h2, h3, hs, fun i hi hne => hn i (fun h => hne (.blk b o) (by simp) h) hi, ⟨?_, List.pairwise_singleton _ _⟩, ?_⟩
  · intro c hc
    simp at hc
    subst hc
    exact hb
  · intro c hc i hi
    simp at hc
    subst hc
    exact .inl ⟨.blk b o, by simp, hi⟩
/-- One piece is turned into another one, of the same blocks or of new ones. -/
theorem Upd.at_ {w0 w w' : World} {Cs H : List Chunk} {i : Nat} {c c' : Chunk} (h : Upd w0 w Cs H) (hi : At H i c) (k : Upd w w' [c] [c']) : Upd w0 w' Cs (H.set i c') := by
  have h2 : Upd w0 w Cs ([c] ++ H.eraseIdx i) := h.perm (At.perm hi).symm
  exact (Upd.step h2 k).perm (At.set hi c')
theorem Upd.row {w : World} {b : Nat} {cur cs : List Value} {t : TypeId} (ho : w.heap[b]? = some (.cells cur.toArray t (0, 0))) : Upd w (w.setRow b cs.toArray) [.box b t cur] [.box b t cs] :=
  Upd.blk ho rfl rfl rfl (by simp) (setRow_heap w b _ _ _ _ ho) (fun i hi _ => setRow_other w b i _ hi)
theorem Upd.grown {w w' : World} {e size n n' : Nat} {v v' : Value} {xs xs' : List Value} (hg : w.grownBy w' v.ownBlock) (ho : w'.ownsRow 0 e size v' n' xs') (hv : ∀ k, v'.ownBlock = some k → v.ownBlock = some k ∨ w.heap.size ≤ k) :
    Upd w w' [.own e size v n xs] [.own e size v' n' xs'] := by
  refine ⟨hg.os, hg.tape, hg.output, hg.size, fun i hi hne => hg.block i hi (fun h => hne (.own e size v n xs) (by simp) h.symm), ⟨?_, List.pairwise_singleton _ _⟩, ?_⟩
  · intro c hc
    simp at hc
    subst hc
    exact ho
  · intro c hc i hi
    simp at hc
    subst hc
    rcases hv i hi with h | h
    · exact .inl ⟨.own e size v n xs, by simp, h⟩
    · exact .inr h
theorem Upd.nilOwn {w0 w : World} {Cs H : List Chunk} (h : Upd w0 w Cs H) (e : TypeId) (size : Nat) : Upd w0 w Cs (.own e size (.slice none 0 0) 0 [] :: H) := by
  refine ⟨h.os, h.tape, h.output, h.size, h.keep, ⟨?_, ?_⟩, ?_⟩
  · intro c hc
    rcases List.mem_cons.1 hc with rfl | hc
    · exact World.ownsRow_nil w 0 e size
    · exact h.own.ok c hc
  · refine List.pairwise_cons.2 ⟨?_, h.own.sep⟩
    intro a _ i hi
    simp [Chunk.fp, Value.ownBlock] at hi
  · intro c hc i hi
    rcases List.mem_cons.1 hc with rfl | hc
    · simp [Chunk.fp, Value.ownBlock] at hi
    · exact h.fresh c hc i hi
/-- A variable that is a row of elements, as a slice of the call's own. -/
theorem Upd.boxOwn {w0 w : World} {Cs H : List Chunk} {i b n size : Nat} {t : TypeId} {cs : List Value} (h : Upd w0 w Cs H) (hi : At H i (.box b t cs)) (hl : cs.length = n * size) (hn : n ≤ 4611686018427387904) : Upd w0 w Cs (H.set i (.own t size (.slice (some ⟨b, 0, none⟩) n n) n cs)) := by
  refine h.at_ hi ?_
  have ho : w.heap[b]? = some (.cells cs.toArray t (0, 0)) := hi.ok h
  refine ⟨rfl, rfl, rfl, Nat.le_refl _, fun _ _ _ => rfl, ⟨?_, List.pairwise_singleton _ _⟩, ?_⟩
  · intro c hc
    simp at hc
    subst hc
    refine ⟨hl, .inr ⟨b, n, cs.toArray, rfl, Nat.zero_le _, ho, Nat.le_refl _, by simp only [maxLen]; omega, by simpa using hl, ?_⟩⟩
    simp [← hl]
  · intro c hc j hj
    simp at hc
    subst hc
    simp [Chunk.fp, Value.ownBlock] at hj
    exact .inl ⟨.box b t cs, by simp, hj.symm⟩

section
variable {P : Program} {n : Nat} {ops : Array Oper} {w0 : World} {Cs H : List Chunk} {e : Env} {K : Env → List Chunk → Prop} {rest : List Oper} {t : Nat} {ty : TypeId} {pos : String} {af : Array Edge} {x y : Operand} {Q : Exit → Env → List Chunk → Prop}
/-- Memory seen otherwise. -/
theorem Seq.re {l : List Oper} {H' : List Chunk} (h : ∀ w, Upd w0 w Cs H → Upd w0 w Cs H') (k : Seq P n ops w0 Cs l H' e K) : Seq P n ops w0 Cs l H e K := fun a w hf hw => k a w hf (h w hw)
theorem JC.re {c : Code} {H' : List Chunk} (h : ∀ w, Upd w0 w Cs H → Upd w0 w Cs H') (k : JC P n w0 Cs c H' e Q) : JC P n w0 Cs c H e Q := fun a w hf hw => k a w hf (h w hw)

theorem run_newVar (P : Program) (t : TypeId) (v : Value) (w : World) : (newVar t v).run P w = .ok ⟨w.heap.size, 0, none⟩ (w.alloc (.cells v.cells t)) := by
  rfl
def cellsL : Value → List Value
  | .agg cs => cs.toList
  | v => [v]
theorem cellsL_eq (v : Value) : v.cells = (cellsL v).toArray := by cases v <;> rfl
/-- A parameter or a local that has an address: 'box'. -/
theorem Seq.box {el : TypeId} {v : Value} {cs : List Value} (ht : Nat.blt t n = true := by rfl) (hx : Look e x v := by repeat (first | exact Look.here | apply Look.there (hne := rfl) | exact Look.const | apply Look.mix rfl | exact Look.arg0 | apply Look.args | exact Look.func)) (hcs : cellsL v = cs := by rfl)
    (k : ∀ b, Seq P n ops w0 Cs rest (.box b el cs :: H) (upd e t (.pointer (some ⟨b, 0, none⟩))) K) :
    Seq P n ops w0 Cs (⟨some t, .box el x, ty, pos, af, none⟩ :: rest) H e K := by
  refine Seq.f ht (R := fun v H' => ∃ b, v = .pointer (some ⟨b, 0, none⟩) ∧ H' = .box b el cs :: H) ?_ ?_
  · intro w hw d pos af g
    refine ⟨_, _, _, .inl ?_, Upd.alloc hw (.cells cs.toArray el), _, rfl, rfl⟩
    replace hx := hx.eq
    simp [execOp, hx, Instr.box, run_newVar, cellsL_eq, hcs]
  · rintro v H' ⟨b, rfl, rfl⟩
    exact k b
def zeroOf (P : Program) (t : TypeId) : Option Value := (P.info? t).bind (·.zero)
theorem Seq.alloc {el : TypeId} {v : Value} {cs : List Value} (ht : Nat.blt t n = true := by rfl) (hz : zeroOf P el = some v) (hcs : cellsL v = cs := by rfl)
    (k : ∀ b, Seq P n ops w0 Cs rest (.box b el cs :: H) (upd e t (.pointer (some ⟨b, 0, none⟩))) K) :
    Seq P n ops w0 Cs (⟨some t, .alloc el, ty, pos, af, none⟩ :: rest) H e K := by
  refine Seq.f ht (R := fun v H' => ∃ b, v = .pointer (some ⟨b, 0, none⟩) ∧ H' = .box b el cs :: H) ?_ ?_
  · intro w hw d pos af g
    refine ⟨_, _, _, .inl ?_, Upd.alloc hw (.cells cs.toArray el), _, rfl, rfl⟩
    unfold zeroOf at hz
    cases hi : P.info? el with
    | none => simp [hi] at hz
    | some i =>
      simp [hi] at hz
      simp [execOp, Instr.alloc, zeroValue, typeInfo, hi, hz, run_newVar, cellsL_eq, hcs]
  · rintro v H' ⟨b, rfl, rfl⟩
    exact k b
/-- A store into a variable of the call's own: of one cell, or of a whole struct or array. -/
theorem run_storeBox {b off : Nat} {tb el : TypeId} {cs : List Value} {v : Value} {vs : List Value} {m : Nat} {w : World} (hsz : szOf P el m = true) (hvs : cellsL v = vs) (hm : vs.length = m) (h1 : ∀ u ∈ vs, u.oneCell' = true) (hfit : off + vs.length ≤ cs.length)
    (hb : w.heap[b]? = some (.cells cs.toArray tb (0, 0))) : (Instr.storeAt el (.pointer (some ⟨b, off, none⟩)) v).run P w = .ok () (w.setRow b (cs.take off ++ vs ++ cs.drop (off + vs.length)).toArray) := by
  have hst := run_storeCells_at P b off tb vs 0 cs.toArray w hb (by simpa using hfit) h1
  simp only [Nat.add_zero] at hst
  simp [Instr.storeAt, Instr.sureAddr, storeVar, cellsL_eq, hvs, szOf_run hsz, hm, hst]
theorem Seq.store {el tb : TypeId} {b off i m : Nat} {cs vs : List Value} {v : Value} (hsz : szOf P el m = true) (hx : Look e x (.pointer (some ⟨b, off, none⟩)) := by repeat (first | exact Look.here | apply Look.there (hne := rfl) | exact Look.const | apply Look.mix rfl | exact Look.arg0 | apply Look.args | exact Look.func)) (hy : Look e y v := by repeat (first | exact Look.here | apply Look.there (hne := rfl) | exact Look.const | apply Look.mix rfl | exact Look.arg0 | apply Look.args | exact Look.func)) (hvs : cellsL v = vs := by rfl) (hm : vs.length = m := by rfl)
    (h1 : (vs.all fun u => u.oneCell') = true := by rfl)
    (hH : At H i (.box b tb cs) := by repeat (first | exact At.z | apply At.s)) (hfit : Nat.ble (off + vs.length) cs.length = true := by rfl)
    (k : Seq P n ops w0 Cs rest (H.set i (.box b tb (cs.take off ++ vs ++ cs.drop (off + vs.length)))) e K) :
    Seq P n ops w0 Cs (⟨none, .store el x y, ty, pos, af, none⟩ :: rest) H e K := by
  refine Seq.f0 (R := fun v H' => H' = H.set i (.box b tb (cs.take off ++ vs ++ cs.drop (off + vs.length)))) ?_ ?_
  · intro w hw d pos af g
    have hb : w.heap[b]? = some (.cells cs.toArray tb (0, 0)) := hH.ok hw
    replace hx := hx.eq
    replace hy := hy.eq
    refine ⟨undef, _, _, .inr ⟨?_, rfl⟩, Upd.at_ hw hH (Upd.row hb), rfl⟩
    simp [execOp, hx, hy, run_storeBox hsz hvs hm (List.all_eq_true.1 h1) (by simpa using hfit) hb]
  · rintro v H' rfl
    exact k
/-- The same where the cells are given by what they become. -/
theorem Seq.storeTo {el tb : TypeId} {b off i m : Nat} {cs vs cs' : List Value} {v : Value} (hsz : szOf P el m = true) (hx : Look e x (.pointer (some ⟨b, off, none⟩)) := by repeat (first | exact Look.here | apply Look.there (hne := rfl) | exact Look.const | apply Look.mix rfl | exact Look.arg0 | apply Look.args | exact Look.func)) (hy : Look e y v := by repeat (first | exact Look.here | apply Look.there (hne := rfl) | exact Look.const | apply Look.mix rfl | exact Look.arg0 | apply Look.args | exact Look.func)) (hvs : cellsL v = vs := by rfl) (hm : vs.length = m := by rfl)
    (h1 : (vs.all fun u => u.oneCell') = true := by rfl) (hH : At H i (.box b tb cs) := by repeat (first | exact At.z | apply At.s)) (hfit : off + vs.length ≤ cs.length) (hcs : cs.take off ++ vs ++ cs.drop (off + vs.length) = cs')
    (k : Seq P n ops w0 Cs rest (H.set i (.box b tb cs')) e K) :
    Seq P n ops w0 Cs (⟨none, .store el x y, ty, pos, af, none⟩ :: rest) H e K := by
  subst hcs
  exact Seq.store hsz hx hy hvs hm h1 hH (by simpa using hfit) k
end

/-! ### slices of the call's own -/
def elOf (P : Program) (el : TypeId) (size bytes : Nat) : Bool := match P.info? el with | some i => i.size == size && i.bytes == bytes && decide (0 < size) && (match i.zero with | some z => z.cells.size == size | none => false) | none => false
theorem elOf_parts {P : Program} {el : TypeId} {size bytes : Nat} (h : elOf P el size bytes = true) : ∃ i z, P.info? el = some i ∧ i.size = size ∧ i.bytes = bytes ∧ 0 < size ∧ i.zero = some z ∧ z.cells.size = size := by
  unfold elOf at h
  split at h
  · rename_i i hi
    simp only [Bool.and_eq_true, beq_iff_eq, decide_eq_true_eq] at h
    obtain ⟨⟨⟨h1, h2⟩, h3⟩, h4⟩ := h
    split at h4
    · rename_i z hz
      exact ⟨i, z, hi, h1, h2, h3, hz, by simpa using h4⟩
    · cases h4
  · cases h
theorem run_append_src {P : Program} (w : World) {t tx ty el : TypeId} {size bytes : Nat} (ht : P.underlying t = some (.slice el)) (he : elOf P el size bytes = true) {v : Value} {n : Nat} {xs : List Value} (hown : w.ownsRow 0 el size v n xs)
    {x : Value} {m : Nat} {news : List Value} (hs : Src P size tx x m news w) (h63 : n + m ≤ 4611686018427387904) (hb : (n + m) * bytes ≤ 140737488355328) :
    ∃ v' w', (Builtin.append_ #[t, tx] ty #[v, x]).run P w = .ok v' w' ∧ w'.ownsRow 0 el size v' (n + m) (xs ++ news) ∧ w.grownBy w' v.ownBlock ∧ (∀ k, v'.ownBlock = some k → v.ownBlock = some k ∨ w.heap.size ≤ k) := by
  obtain ⟨i, z, hi, rfl, rfl, hpos, hz, hzs⟩ := elOf_parts he
  have hlen : (xs ++ news).length = (n + m) * i.size := by rw [List.length_append, hown.1, hs.newsLen, Nat.add_mul]
  have grown : ∀ (old : Nat) (row : Option Nat), old < n + m →
      (w.drew.alloc (.cells ((xs ++ news).toArray ++ Builtin.zeroCells z.cells (grownCap w (n + m) old el - (n + m))) el)).ownsRow 0 el i.size
        (.slice (some ⟨w.heap.size, 0, none⟩) (n + m) (grownCap w (n + m) old el)) (n + m) (xs ++ news) ∧
      w.grownBy (w.drew.alloc (.cells ((xs ++ news).toArray ++ Builtin.zeroCells z.cells (grownCap w (n + m) old el - (n + m))) el)) row := by
    intro old row ho
    have hge := grownCap_ge w (n + m) old el
    have hcm : grownCap w (n + m) old el ≤ maxLen := grownCap_le_maxLen w (n + m) old el (by simp only [maxLen]; omega)
    refine ⟨⟨hlen, .inr ⟨w.heap.size, _, _, rfl, Nat.zero_le _, heap_alloc_new w.drew _, hge, hcm, ?_, ?_⟩⟩, ⟨rfl, rfl, rfl, by simp, fun k hk _ => Below.heap_alloc w.drew _ k hk⟩⟩
    · rw [Array.size_append, List.size_toArray, size_zeroCells, hzs, hlen, ← Nat.add_mul]
      congr 1
      omega
    · rw [Array.toList_append, ← hlen]
      exact List.take_left
  rcases hown.2 with ⟨rfl, rfl⟩ | ⟨g, cap, cur, rfl, hbg, hg, hnc, hcm, hcs, htake⟩
  · have hx : xs = [] := List.eq_nil_of_length_eq_zero (by simpa using hown.1)
    subst hx
    by_cases hm : m = 0
    · subst hm
      have hn : news = [] := List.eq_nil_of_length_eq_zero (by simpa using hs.newsLen)
      subst hn
      refine ⟨.slice none 0 0, w, ?_, World.ownsRow_nil w 0 el i.size, ⟨rfl, rfl, rfl, Nat.le_refl _, fun _ _ _ => rfl⟩, by simp [Value.ownBlock]⟩
      rcases hs.kind with ⟨e', hk⟩ | hk <;> simp [Builtin.append_, run_underlying ht, run_underlying hk, sizeOf, typeInfo, hi, hs.len, hs.cells]
    · have hr := run_append_grow_src (P := P) w t tx ty el i z ht hi hz none 0 0 [] (by simp [Builtin.firstCells]) x m news hs (by omega) (by omega) (growslice_fits (by omega) hb)
      have hg := grown 0 (Value.ownBlock (.slice none 0 0)) (by omega)
      exact ⟨_, _, hr, hg.1, hg.2, fun k hk => .inr (by simp [Value.ownBlock] at hk; omega)⟩
  · by_cases hroom : n + m ≤ cap
    · have hmul : (n + m) * i.size ≤ cap * i.size := Nat.mul_le_mul_right _ hroom
      have hnl := hs.newsLen
      have hfit : n * i.size + news.length ≤ cur.size := by rw [hcs, hnl, ← Nat.add_mul]; exact hmul
      have hst := run_storeCells_at P g (n * i.size) el news 0 cur w hg (by simpa using hfit) hs.one
      simp only [Nat.add_zero] at hst
      have hr2 : (Builtin.append_ #[t, tx] ty #[.slice (some ⟨g, 0, none⟩) n cap, x]).run P w = .ok (.slice (some ⟨g, 0, none⟩) (n + m) cap) (w.setRow g (cur.toList.take (n * i.size) ++ news ++ cur.toList.drop (n * i.size + news.length)).toArray) := by
        have hadd : (⟨g, 0, none⟩ : Addr).add (n * i.size) = ⟨g, n * i.size, none⟩ := by unfold Addr.add; split <;> simp_all
        rcases hs.kind with ⟨e', hk⟩ | hk <;> simp [Builtin.append_, run_underlying ht, run_underlying hk, sizeOf, typeInfo, hi, hs.len, hroom, hs.cells, hadd, hst]
      refine ⟨_, _, hr2, ⟨hlen, .inr ⟨g, cap, _, rfl, Nat.zero_le _, setRow_heap w g _ _ _ _ hg, hroom, hcm, ?_, ?_⟩⟩, ⟨rfl, rfl, rfl, by simp, fun k hk hne => setRow_other w g k _ (fun h => hne (by simp [Value.ownBlock, h]))⟩, fun k hk => .inl hk⟩
      · have h4 : (cur.toList.take (n * i.size)).length = n * i.size := by
          rw [List.length_take, Array.length_toList (xs := cur)]; omega
        rw [List.size_toArray, List.length_append, List.length_append, h4, List.length_drop, Array.length_toList (xs := cur), ← hcs]
        omega
      · have h4 : (cur.toList.take (n * i.size) ++ news).length = (n + m) * i.size := by
          rw [htake, hlen]
        show List.take ((n + m) * i.size) (cur.toList.take (n * i.size) ++ news ++ cur.toList.drop (n * i.size + news.length)) = _
        rw [← h4, List.take_left, htake]
    · have hold : (Builtin.firstCells i.size n (.slice (some ⟨g, 0, none⟩) n cap)).run P w.drew = .ok xs.toArray w.drew := by
        refine run_firstCells_some w.drew i.size n ⟨g, 0, none⟩ n cap xs hown.1 ?_
        intro j u hu
        exact hown.cells rfl j u hu
      have hr := run_append_grow_src (P := P) w t tx ty el i z ht hi hz (some ⟨g, 0, none⟩) n cap xs hold x m news hs (by omega) (by omega) (by
        have h1 : (n + m) * i.bytes ≤ 140737488355328 := hb
        exact growslice_fits (by omega) h1)
      have hg' := grown cap (Value.ownBlock (.slice (some ⟨g, 0, none⟩) n cap)) (by omega)
      exact ⟨_, _, hr, hg'.1, hg'.2, fun k hk => .inr (by simp [Value.ownBlock] at hk; omega)⟩
end Go.Rx
