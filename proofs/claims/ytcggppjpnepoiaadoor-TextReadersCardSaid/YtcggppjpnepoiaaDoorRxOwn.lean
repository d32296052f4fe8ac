/- The rule layer, sixth part: values built, slices made, appended to, cut. -/
import Derived.Test.YtcggppjpnepoiaaDoorRxEff
namespace Go.Rx
open Go Go.RowKit
set_option linter.unusedVariables false
set_option linter.unusedSimpArgs false

/-! ### structs and arrays built -/
def fillL (place : Nat → Option (Nat × Nat)) (cs : List Value) : List (Nat × Value) → Option (List Value)
  | [] => some cs
  | (i, v) :: r =>
    match place i with
    | none => none
    | some (off, size) => match Nat.beq (cellsL v).length size, Nat.ble (off + (cellsL v).length) cs.length with
      | true, true => fillL place (cs.take off ++ cellsL v ++ cs.drop (off + (cellsL v).length)) r
      | _, _ => none
theorem foldl_set (vs : List Value) : ∀ (cs : List Value) (off k : Nat), off + k + vs.length ≤ cs.length →
    (vs.toArray.zipIdx k).foldl (fun (cs : Array Value) (x : Value × Nat) => cs.setIfInBounds (off + x.2) x.1) cs.toArray = (cs.take (off + k) ++ vs ++ cs.drop (off + k + vs.length)).toArray := by
  induction vs with
  | nil =>
    intro cs off k h
    have : (([] : List Value).toArray.zipIdx k) = #[] := by simp
    rw [this]
    simp
  | cons v vs ih =>
    intro cs off k h
    have h1 : (v :: vs).toArray.zipIdx k = ((v, k) :: (vs.zipIdx (k + 1))).toArray := by simp
    rw [h1]
    have h2 : ((v, k) :: (vs.zipIdx (k + 1))).toArray.foldl (fun (cs : Array Value) (x : Value × Nat) => cs.setIfInBounds (off + x.2) x.1) cs.toArray =
        (vs.toArray.zipIdx (k + 1)).foldl (fun (cs : Array Value) (x : Value × Nat) => cs.setIfInBounds (off + x.2) x.1) (cs.set (off + k) v).toArray := by
      simp
    rw [h2, ih (cs.set (off + k) v) off (k + 1) (by simp at h ⊢; omega)]
    congr 1
    simp only [List.length_cons] at h ⊢
    have e := list_seg_step cs (off + k) v vs (by omega)
    have h3 : off + (k + 1) = off + k + 1 := by omega
    rw [h3]
    simpa [Nat.add_assoc] using e
theorem fill_eq (place : Nat → Option (Nat × Nat)) : ∀ (parts : List (Nat × Value)) (cs ds : List Value), fillL place cs parts = some ds → Instr.fill place cs.toArray parts = some ds.toArray
  | [], cs, ds, h => by simp [fillL] at h; subst h; rfl
  | (i, v) :: r, cs, ds, h => by
    unfold fillL at h
    unfold Instr.fill
    cases hp : place i with
    | none => simp [hp] at h
    | some q =>
      obtain ⟨off, size⟩ := q
      simp only [hp] at h ⊢
      split at h
      · rename_i h1 h2
        have h1' : (cellsL v).length = size := Nat.eq_of_beq_eq_true h1
        have h2' : off + (cellsL v).length ≤ cs.length := Nat.le_of_ble_eq_true h2
        have ih := fill_eq place r _ ds h
        have hsz : v.cells.size = size := by rw [cellsL_eq]; simpa using h1'
        have hcond : ¬ ((decide (v.cells.size ≠ size) || decide (off + v.cells.size > cs.toArray.size)) = true) := by
          rw [cellsL_eq]
          simp
          exact ⟨h1', h2'⟩
        rw [if_neg hcond, ← ih, cellsL_eq]
        congr 1
        have := foldl_set (cellsL v) cs off 0 (by omega)
        simpa using this
      · cases h
def fieldPlaces (P : Program) (t : TypeId) : Option (List (Nat × Nat)) :=
  match P.underlying t with
  | some (.struct fs) => fs.toList.mapM fun f => (P.info? f.type).map fun i => (f.offset, i.size)
  | _ => none
theorem fieldPlaces_run {P : Program} {t : TypeId} {pl : List (Nat × Nat)} (h : fieldPlaces P t = some pl) : ∃ fs : Array Field, P.underlying t = some (.struct fs) ∧ ∀ w, (fs.mapM fun f => do pure (f.offset, ← sizeOf f.type) : Sem (Array (Nat × Nat))).run P w = .ok pl.toArray w := by
  unfold fieldPlaces at h
  split at h
  · rename_i fs hu
    refine ⟨fs, hu, fun w => ?_⟩
    have key : ∀ (l : List Field) (pl : List (Nat × Nat)), l.mapM (fun f => (P.info? f.type).map fun i => (f.offset, i.size)) = some pl →
        (l.mapM fun f => do pure (f.offset, ← sizeOf f.type) : Sem (List (Nat × Nat))).run P w = .ok pl w := by
      intro l
      induction l with
      | nil => intro pl h; simp at h; subst h; simp
      | cons f l ih =>
        intro pl h
        simp only [List.mapM_cons] at h
        cases hi : P.info? f.type with
        | none => simp [hi] at h
        | some i =>
          cases hl : l.mapM (fun f => (P.info? f.type).map fun i => (f.offset, i.size)) with
          | none => simp [hi, hl] at h
          | some pl' =>
            simp [hi, hl] at h
            subst h
            have := ih pl' hl
            simp [List.mapM_cons, sizeOf, typeInfo, hi] at this ⊢
            simp [this]
    have h3 := key fs.toList pl h
    have h4 : (fs.mapM fun f => do pure (f.offset, ← sizeOf f.type) : Sem (Array (Nat × Nat))) = List.toArray <$> (fs.toList.mapM fun f => do pure (f.offset, ← sizeOf f.type) : Sem (List (Nat × Nat))) := by
      rw [← List.mapM_toArray]
    rw [h4, Sem.run_map, h3]
    rfl
  · cases h
section
variable {P : Program} {w0 : World} {Cs H : List Chunk} {e : Env} {ty tx ty' : TypeId} {x y : Operand} {k k' : IntKind} {a b : Int}
theorem Ev.build {t : TypeId} {zs cs : List Value} {pl : List (Nat × Nat)} {l : List (Nat × Operand)} (hpl : fieldPlaces P t = some pl) (hz : zeroOf P t = some (.agg zs.toArray))
    (hcs : fillL (pl[·]?) zs (l.map fun p => (p.1, ev e p.2)) = some cs := by rfl) : Ev P w0 Cs H e (.build t l.toArray) ty (.agg cs.toArray) := by
  intro w _ d pos af g
  obtain ⟨fs, hu, hr⟩ := fieldPlaces_run hpl
  unfold zeroOf at hz
  cases hi : P.info? t with
  | none => simp [hi] at hz
  | some i =>
    simp [hi] at hz
    have hf := fill_eq _ _ _ _ hcs
    have hr' := hr w
    simp only [execOp, Instr.build, Sem.run_bind, zeroValue, typeInfo, run_program, Result.andThen_ok, hi, Sem.run_pure, hz, run_underlying hu, hr', Value.cells]
    have hp : (fun x : Nat => pl.toArray[x]?) = (fun x : Nat => pl[x]?) := by funext x; simp
    have hl : (Array.map (fun x : Nat × Operand => (x.1, ev e x.2)) l.toArray).toList = l.map fun p => (p.1, ev e p.2) := by simp
    rw [hp, hl, hf]
    rfl
theorem Ev.buildArr {t el : TypeId} {len sz : Nat} {zs cs : List Value} {l : List (Nat × Operand)} (hs : arrOf P t len el sz = true) (hz : zeroOf P t = some (.agg zs.toArray))
    (hcs : fillL (fun i => some (i * sz, sz)) zs (l.map fun p => (p.1, ev e p.2)) = some cs := by rfl) : Ev P w0 Cs H e (.build t l.toArray) ty (.agg cs.toArray) := by
  intro w _ d pos af g
  obtain ⟨h1, h2⟩ := arrOf_und hs
  unfold zeroOf at hz
  cases hi : P.info? t with
  | none => simp [hi] at hz
  | some i =>
    simp [hi] at hz
    have hf := fill_eq _ _ _ _ hcs
    simp only [execOp, Instr.build, Sem.run_bind, zeroValue, typeInfo, run_program, Result.andThen_ok, hi, Sem.run_pure, hz, run_underlying h1, szOf_run h2, Value.cells]
    have hl : (Array.map (fun x : Nat × Operand => (x.1, ev e x.2)) l.toArray).toList = l.map fun p => (p.1, ev e p.2) := by simp
    rw [hl, hf]
    rfl
/-! ### slices cut -/
def subSl (v : Value) (lo hi sz : Nat) : Value :=
  match v with
  | .slice A _ c => .slice (if c = lo then A else A.map (·.add (lo * sz))) (hi - lo) (c - lo)
  | v => v
theorem RSl.sub {α : Type} [Inhabited α] {enc : α → List Value} {sz : Nat} {w : World} {v : Value} {xs : List α} (h : RSl enc sz w Cs v xs) {lo hi : Nat} (h1 : lo ≤ hi) (h2 : hi ≤ xs.length) : RSl enc sz w Cs (subSl v lo hi sz) ((xs.drop lo).take (hi - lo)) := by
  obtain ⟨A, c, rfl, hc, hA⟩ := h.shape
  have hl : ((xs.drop lo).take (hi - lo)).length = hi - lo := by simp; omega
  refine ⟨⟨_, _, by rw [hl]; rfl, by rw [hl]; omega, ?_⟩, by have := h.small; omega, fun x hx => h.size x (List.mem_of_mem_drop (List.mem_of_mem_take hx)), ?_⟩
  · intro hn
    have : xs = [] := by
      cases A with
      | none => exact hA rfl
      | some a => split at hn <;> simp at hn
    subst this
    simp
  · intro i hi' j u hu
    rw [hl] at hi'
    have hget : ((xs.drop lo).take (hi - lo))[i]! = xs[lo + i]! := by
      rw [getElem!_pos _ i (by rw [hl]; exact hi'), getElem!_pos _ (lo + i) (by omega)]
      simp
    rw [hget] at hu
    have := h.cell (lo + i) (by omega) j u hu
    cases A with
    | none => have := hA rfl; subst this; simp at h2; omega
    | some ad =>
      have hne : c ≠ lo := by omega
      simp only [subSl, if_neg hne, Option.map, sbase] at this ⊢
      rw [Addr.add_add]
      have e1 : (lo + i) * sz + j = lo * sz + (i * sz + j) := by rw [Nat.add_mul, Nat.add_assoc]
      rwa [e1] at this
theorem Ev.cut {α : Type} [Inhabited α] {enc : α → List Value} {sz : Nat} {s el : TypeId} {v : Value} {xs : List α} {lo hi : Option Operand} {l h : Nat} (hs : slcOf P s el sz = true) (hx : Look e x v := by repeat (first | exact Look.here | apply Look.there (hne := rfl) | exact Look.const | apply Look.mix rfl | exact Look.arg0 | apply Look.args | exact Look.func)) (hr : RAt w0 Cs H enc sz v xs)
    (hlo : lo.elim (l = 0) (fun z => ∃ k, Look e z (.int k (l : Int)))) (hhi : hi.elim (h = xs.length) (fun z => ∃ k, Look e z (.int k (h : Int)))) (h1 : l ≤ h := by omega) (h2 : h ≤ xs.length := by omega) :
    Ev P w0 Cs H e (.slice s x lo hi none) ty (subSl v l h sz) := by
  intro w hw d pos af g
  replace hx := hx.eq
  obtain ⟨Cs', hr⟩ := hr w hw
  obtain ⟨A, c, rfl, hc, hA⟩ := hr.shape
  obtain ⟨hu, hz⟩ := slcOf_und hs
  have g1 : ¬ c < h := by omega
  have g2 : ¬ h < l := by omega
  have g3 : h ≤ c := by omega
  have g4 : l ≤ h := by omega
  cases lo with
  | none =>
    simp only [Option.elim] at hlo
    subst hlo
    cases hi with
    | none =>
      simp only [Option.elim] at hhi
      subst hhi
      simp [execOp, hx, Instr.sliceAt, Instr.slice, run_underlying hu, Instr.sliceBounds, szOf_run hz, subSl]
    | some z =>
      obtain ⟨k, hk⟩ := hhi
      replace hk := hk.eq
      simp [execOp, hx, hk, Instr.sliceAt, Instr.slice, run_underlying hu, Instr.sliceBounds, Instr.sliceBound, asIntOf, szOf_run hz, subSl, g1, g3]
  | some y =>
    obtain ⟨k2, hk2⟩ := hlo
    replace hk2 := hk2.eq
    cases hi with
    | none =>
      simp only [Option.elim] at hhi
      subst hhi
      simp [execOp, hx, hk2, Instr.sliceAt, Instr.slice, run_underlying hu, Instr.sliceBounds, Instr.sliceBound, asIntOf, szOf_run hz, subSl, g2, g4]
    | some z =>
      obtain ⟨k, hk⟩ := hhi
      replace hk := hk.eq
      simp [execOp, hx, hk, hk2, Instr.sliceAt, Instr.slice, run_underlying hu, Instr.sliceBounds, Instr.sliceBound, asIntOf, szOf_run hz, subSl, g1, g2, g3, g4]
theorem Ev.cutStr {s : ByteArray} {lo hi : Option Operand} {l h : Nat} (ht : isStr P tx = true) (hx : Look e x (.string s) := by repeat (first | exact Look.here | apply Look.there (hne := rfl) | exact Look.const | apply Look.mix rfl | exact Look.arg0 | apply Look.args | exact Look.func))
    (hlo : lo.elim (l = 0) (fun z => ∃ k, Look e z (.int k (l : Int)))) (hhi : hi.elim (h = s.size) (fun z => ∃ k, Look e z (.int k (h : Int)))) (h1 : l ≤ h := by omega) (h2 : h ≤ s.size := by omega) :
    Ev P w0 Cs H e (.slice tx x lo hi none) ty (.string (s.extract l h)) := by
  intro w hw d pos af g
  replace hx := hx.eq
  have g1 : ¬ s.size < h := by omega
  have g2 : ¬ h < l := by omega
  have g3 : h ≤ s.size := by omega
  have g4 : l ≤ h := by omega
  have hu := isStr_und ht
  cases lo with
  | none =>
    simp only [Option.elim] at hlo
    subst hlo
    cases hi with
    | none =>
      simp only [Option.elim] at hhi
      subst hhi
      simp [execOp, hx, Instr.sliceAt, Instr.slice, run_underlying hu, Instr.sliceBounds]
    | some z =>
      obtain ⟨k, hk⟩ := hhi
      replace hk := hk.eq
      simp [execOp, hx, hk, Instr.sliceAt, Instr.slice, run_underlying hu, Instr.sliceBounds, Instr.sliceBound, asIntOf, g1, g3]
  | some y =>
    obtain ⟨k2, hk2⟩ := hlo
    replace hk2 := hk2.eq
    cases hi with
    | none =>
      simp only [Option.elim] at hhi
      subst hhi
      simp [execOp, hx, hk2, Instr.sliceAt, Instr.slice, run_underlying hu, Instr.sliceBounds, Instr.sliceBound, asIntOf, g2, g4]
    | some z =>
      obtain ⟨k, hk⟩ := hhi
      replace hk := hk.eq
      simp [execOp, hx, hk, hk2, Instr.sliceAt, Instr.slice, run_underlying hu, Instr.sliceBounds, Instr.sliceBound, asIntOf, g1, g2, g3, g4]
end

/-! ### slices of the call's own -/
section
variable {P : Program} {n : Nat} {ops : Array Oper} {w0 : World} {Cs H : List Chunk} {e : Env} {K : Env → List Chunk → Prop} {rest : List Oper} {t : Nat} {ty : TypeId} {pos : String} {af : Array Edge} {x y : Operand} {Q : Exit → Env → List Chunk → Prop}
/-- A slice of the call's own read as data. -/
theorem RSl.owned {α : Type} [Inhabited α] {enc : α → List Value} {el : TypeId} {sz m i : Nat} {v : Value} {cs : List Value} {xs : List α} {w : World} (hH : At H i (.own el sz v m cs)) (hw : Upd w0 w Cs H) (hcs : cs = xs.flatMap enc) (hm : m = xs.length) (hsz : ∀ x, (enc x).length = sz) (hs : xs.length ≤ 4611686018427387904) :
    RSl enc sz w (H.eraseIdx i) v xs := by
  subst hcs hm
  have hok : OwnR w el sz v xs.length (xs.flatMap enc) := hH.ok hw
  have hsep := (hw.perm (At.perm hH).symm).own.sep
  rw [List.pairwise_cons] at hsep
  rcases hok.2 with ⟨rfl, h0⟩ | ⟨g, off, cap, cur, fr, rfl, hg, hc, hcm, _, _, htake⟩
  · have : xs = [] := List.eq_nil_of_length_eq_zero h0
    subst this
    exact ⟨⟨none, 0, rfl, Nat.le_refl _, fun _ => rfl⟩, by simp, by simp, fun i hi => by simp at hi⟩
  · refine ⟨⟨some ⟨g, off, none⟩, cap, rfl, hc, by simp⟩, hs, fun x _ => hsz x, ?_⟩
    intro k hk j u hu
    have hj : j < sz := by
      have := (List.getElem?_eq_some_iff.1 hu).1
      rw [hsz] at this
      exact this
    have hget : (xs.flatMap enc)[k * sz + j]? = some u := by
      have key : ∀ (xs : List α) (k : Nat), k < xs.length → (xs.flatMap enc)[k * sz + j]? = (enc xs[k]!)[j]? := by
        intro xs
        induction xs with
        | nil => intro k hk; simp at hk
        | cons x xs ih =>
          intro k hk
          cases k with
          | zero => simp [List.flatMap_cons, List.getElem?_append, hsz, hj]
          | succ k =>
            have := ih k (by simpa using hk)
            rw [List.flatMap_cons, List.getElem?_append_right (by rw [hsz, Nat.add_mul]; omega), hsz]
            have e1 : (k + 1) * sz + j - sz = k * sz + j := by rw [Nat.add_mul]; omega
            rw [e1, this]
            simp at hk
            simp [hk]
      rw [key xs k hk]
      exact hu
    refine ⟨?_, ?_⟩
    · have := hok.cells (k * sz + j) u hget
      have h2 : (⟨g, off, none⟩ : Addr).add (k * sz + j) = ⟨g, off + (k * sz + j), none⟩ := by unfold Addr.add; split <;> simp_all
      simpa [sbase, h2] using this
    · intro c hc hfp
      refine hsep.1 c hc g (by simp [Chunk.fp, Value.ownBlock]) ?_
      have hb : ((⟨g, off, none⟩ : Addr).add (k * sz + j)).block = g := by unfold Addr.add; split <;> rfl
      simpa [sbase, hb] using hfp
theorem RAt.own {α : Type} [Inhabited α] {enc : α → List Value} {el : TypeId} {sz m i : Nat} {v : Value} {cs : List Value} {xs : List α} (hH : At H i (.own el sz v m cs) := by repeat (first | exact At.z | apply At.s)) (hcs : cs = xs.flatMap enc := by rfl) (hm : m = xs.length := by rfl) (hsz : ∀ x, (enc x).length = sz := by intro _; rfl) (hs : xs.length ≤ 4611686018427387904 := by first | omega | simp) : RAt w0 Cs H enc sz v xs :=
  fun w hw => ⟨_, RSl.owned hH hw hcs hm hsz hs⟩
/-- A row of elements that the call made, as a slice that is read. -/
theorem RAt.box {α : Type} [Inhabited α] {enc : α → List Value} {el : TypeId} {sz m i b : Nat} {cs : List Value} {xs : List α} (hH : At H i (.box b el cs) := by repeat (first | exact At.z | apply At.s)) (hcs : cs = xs.flatMap enc := by rfl) (hm : m = xs.length := by rfl) (hsz : ∀ x, (enc x).length = sz := by intro _; rfl) (hs : xs.length ≤ 4611686018427387904 := by first | omega | simp) : RAt w0 Cs H enc sz (.slice (some ⟨b, 0, none⟩) m m) xs := by
  intro w hw
  have hl : cs.length = m * sz := by
    subst hcs hm
    clear hs hH
    induction xs with
    | nil => simp
    | cons x xs ih => rw [List.flatMap_cons, List.length_append, ih, hsz, List.length_cons, Nat.add_mul]; omega
  have h2 := Upd.boxOwn hw hH hl (by omega)
  have hH2 : At (H.set i (.own el sz (.slice (some ⟨b, 0, none⟩) m m) m cs)) i (.own el sz (.slice (some ⟨b, 0, none⟩) m m) m cs) := by
    have hlt := (List.getElem?_eq_some_iff.1 hH.eq).1
    exact ⟨by simp [hlt]⟩
  exact ⟨_, RSl.owned hH2 h2 hcs hm hsz hs⟩
theorem ownsRow_slice {w : World} {el sz m : Nat} {v : Value} {cs : List Value} (h : OwnR w el sz v m cs) : ∃ A c, v = .slice A m c := by
  rcases h.2 with ⟨rfl, rfl⟩ | ⟨g, off, cap, cur, fr, rfl, _⟩
  · exact ⟨_, _, rfl⟩
  · exact ⟨_, _, rfl⟩
/-- append, onto a slice of the call's own. -/
theorem Seq.append {ts tx el : TypeId} {size bytes m j i : Nat} {v u : Value} {xs news : List Value} (ht : Nat.blt t n = true := by rfl) (hsl : slcOf P ts el size = true) (he : elOf P el size bytes = true)
    (hx : Look e x v := by repeat (first | exact Look.here | apply Look.there (hne := rfl) | exact Look.const | apply Look.mix rfl | exact Look.arg0 | apply Look.args | exact Look.func)) (hy : Look e y u := by repeat (first | exact Look.here | apply Look.there (hne := rfl) | exact Look.const | apply Look.mix rfl | exact Look.arg0 | apply Look.args | exact Look.func)) (hH : At H i (.own el size v m xs) := by repeat (first | exact At.z | apply At.s)) (hsrc : ∀ w, Upd w0 w Cs H → Src P size tx u j news w)
    (h63 : m + j ≤ 4611686018427387904 := by omega) (hb : (m + j) * bytes ≤ 140737488355328 := by omega)
    (k : ∀ A c, Seq P n ops w0 Cs rest (H.set i (.own el size (.slice A (m + j) c) (m + j) (xs ++ news))) (upd e t (.slice A (m + j) c)) K) :
    Seq P n ops w0 Cs (⟨some t, .call ⟨.builtin .append, #[x, y], #[ts, tx]⟩, ty, pos, af, none⟩ :: rest) H e K := by
  refine Seq.f ht (R := fun v' H' => ∃ A c, v' = .slice A (m + j) c ∧ H' = H.set i (.own el size (.slice A (m + j) c) (m + j) (xs ++ news))) ?_ ?_
  · intro w hw d pos af g
    replace hx := hx.eq
    replace hy := hy.eq
    have hown : OwnR w el size v m xs := hH.ok hw
    obtain ⟨v', w', hr, ho, hg, hv⟩ := run_append_src (ty := ty) w (slcOf_und hsl).1 he hown (hsrc w hw) h63 hb
    obtain ⟨A, c, rfl⟩ := ownsRow_slice ho
    refine ⟨_, w', _, .inl ?_, Upd.at_ hw hH (Upd.grown hg ho hv), A, c, rfl, rfl⟩
    simp [execOp, resolve, invoke, builtin, hx, hy, hr]
  · rintro v' H' ⟨A, c, rfl, rfl⟩
    exact k A c
theorem Src.box {tx el el' : TypeId} {size j i b cap : Nat} {cs news : List Value} {w : World} (hk : slcOf P tx el' size = true) (hH : At H i (.box b el cs)) (hw : Upd w0 w Cs H) (hl : news.length = j * size) (hc : ∀ (q : Nat) u, news[q]? = some u → cs[q]? = some u) (h1 : (news.all fun u => u.oneCell') = true := by rfl) :
    Src P size tx (.slice (some ⟨b, 0, none⟩) j cap) j news w := by
  refine Src.ofSlice w (slcOf_und hk).1 _ j cap news hl ?_ (List.all_eq_true.1 h1)
  intro q u hu
  have hb : w.heap[b]? = some (.cells cs.toArray el (0, 0)) := hH.ok hw
  have h2 : (⟨b, 0, none⟩ : Addr).add q = ⟨b, q, none⟩ := by unfold Addr.add; split <;> simp_all
  rw [h2, cell_of_row w b q cs.toArray el (0, 0) hb]
  simpa using hc q u hu
theorem Src.rsl {α : Type} [Inhabited α] {enc : α → List Value} {tx el' : TypeId} {size : Nat} {v : Value} {xs : List α} {w : World} {Gs : List Chunk} (hk : slcOf P tx el' size = true) (hr : RSl enc size w Gs v xs) (hpos : 0 < size) (h1 : ∀ x, ∀ u ∈ enc x, u.oneCell' = true) :
    Src P size tx v xs.length (xs.flatMap enc) w := by
  obtain ⟨A, c, rfl, hc, hA⟩ := hr.shape
  cases A with
  | none =>
    have := hA rfl
    subst this
    simp
    exact Src.ofNil w (slcOf_und hk).1 c
  | some ad =>
    have hlen : (xs.flatMap enc).length = xs.length * size := by
      have key : ∀ ys : List α, (∀ y ∈ ys, (enc y).length = size) → (ys.flatMap enc).length = ys.length * size := by
        intro ys
        induction ys with
        | nil => intro _; simp
        | cons y ys ih =>
          intro h
          rw [List.flatMap_cons, List.length_append, ih (fun z hz => h z (List.mem_cons_of_mem _ hz)), h y (List.mem_cons_self ..), List.length_cons, Nat.add_mul]
          omega
      exact key xs hr.size
    refine Src.ofSlice w (slcOf_und hk).1 ad xs.length c _ hlen ?_ ?_
    · intro q u hu
      have key : ∀ (ys : List α), (∀ y ∈ ys, (enc y).length = size) → ∀ (q : Nat) u, (ys.flatMap enc)[q]? = some u → q / size < ys.length ∧ (enc ys[q / size]!)[q % size]? = some u := by
        intro ys
        induction ys with
        | nil => intro _ q u h; simp at h
        | cons y ys ih =>
          intro hs q u h
          rw [List.flatMap_cons] at h
          have hy := hs y (List.mem_cons_self ..)
          by_cases hq : q < size
          · rw [List.getElem?_append_left (by rw [hy]; exact hq)] at h
            rw [Nat.div_eq_of_lt hq, Nat.mod_eq_of_lt hq]
            exact ⟨by simp, by simpa using h⟩
          · rw [List.getElem?_append_right (by rw [hy]; omega), hy] at h
            obtain ⟨h3, h4⟩ := ih (fun z hz => hs z (List.mem_cons_of_mem _ hz)) (q - size) u h
            have e1 : q / size = (q - size) / size + 1 := by
              rw [Nat.div_eq q size, if_pos ⟨hpos, by omega⟩]
            have e2 : q % size = (q - size) % size := by
              rw [Nat.mod_eq q size, if_pos ⟨hpos, by omega⟩]
            rw [e1, e2]
            refine ⟨by simp; omega, ?_⟩
            have : (y :: ys)[(q - size) / size + 1]! = ys[(q - size) / size]! := by
              simp [h3]
            rw [this]
            exact h4
      obtain ⟨h3, h4⟩ := key xs hr.size q u hu
      have h5 := (hr.cell (q / size) h3 (q % size) u h4).1
      have e1 : q / size * size + q % size = q := by
        rw [Nat.mul_comm]; exact Nat.div_add_mod q size
      rw [e1] at h5
      exact h5
    · intro u hu
      obtain ⟨z, _, hz⟩ := List.mem_flatMap.1 hu
      exact h1 z u hz
/-- A slice literal. -/
theorem Seq.buildSl {ts el : TypeId} {size len : Nat} {z : Value} {zs cs : List Value} {l : List (Nat × Operand)} (ht : Nat.blt t n = true := by rfl) (hsl : slcOf P ts el size = true) (hz : zeroOf P el = some z) (hzs : cellsL z = zs := by rfl) (hlen : Nat.ble (len * size) 16777216 = true := by rfl)
    (hcs : fillL (fun i => some (i * size, size)) ((List.range (len * size)).map fun q => zs[q % zs.length]!) (l.map fun p => (p.1, ev e p.2)) = some cs)
    (k : ∀ b, Seq P n ops w0 Cs rest (.box b el cs :: H) (upd e t (.slice (some ⟨b, 0, none⟩) len len)) K) :
    Seq P n ops w0 Cs (⟨some t, .buildSlice ts len l.toArray, ty, pos, af, none⟩ :: rest) H e K := by
  refine Seq.f ht (R := fun v H' => ∃ b, v = .slice (some ⟨b, 0, none⟩) len len ∧ H' = .box b el cs :: H) ?_ ?_
  · intro w hw d pos af g
    refine ⟨_, _, _, .inl ?_, Upd.alloc hw (.cells cs.toArray el), _, rfl, rfl⟩
    obtain ⟨hu, hs⟩ := slcOf_und hsl
    have hle : ¬ (len * size > 16777216) := by
      have := Nat.le_of_ble_eq_true hlen
      omega
    unfold zeroOf at hz
    cases hi : P.info? el with
    | none => simp [hi] at hz
    | some i =>
      simp [hi] at hz
      have hf := fill_eq _ _ _ _ hcs
      have hl : (Array.map (fun x : Nat × Operand => (x.1, ev e x.2)) l.toArray).toList = l.map fun p => (p.1, ev e p.2) := by simp
      have hzero : (Array.map (fun x => z.cells[x % z.cells.size]!) (Array.range (len * size))) = ((List.range (len * size)).map fun q => zs[q % zs.length]!).toArray := by
        rw [cellsL_eq, hzs]
        apply Array.ext'
        simp
      have hle' : ¬ (2 ^ 24 < len * size) := by
        have : (2 : Nat) ^ 24 = 16777216 := by decide
        omega
      have hnr : ∀ c : Array Value, (newRow el c).run P w = .ok ⟨w.heap.size, 0, none⟩ (w.alloc (.cells c el)) := fun _ => rfl
      simp only [execOp, Instr.buildSlice, Sem.run_bind, run_underlying hu, Result.andThen_ok, szOf_run hs, gt_iff_lt, if_neg hle', Sem.run_pure]
      by_cases h0 : len * size = 0
      · have hempty : ((List.range (len * size)).map fun q => zs[q % zs.length]!).toArray = #[] := by rw [h0]; rfl
        rw [hempty] at hf
        rw [if_pos h0]
        have hr0 : Array.map (fun x => (#[] : Array Value)[x % (#[] : Array Value).size]!) (Array.range (len * size)) = #[] := by rw [h0]; simp
        simp only [pure_bind]
        rw [hr0, hl, hf]
        simp only [Sem.run_bind, hnr, Result.andThen_ok, Sem.run_pure]
      · rw [if_neg h0]
        simp only [Sem.run_bind, zeroValue, typeInfo, run_program, Result.andThen_ok, hi, Sem.run_pure, hz]
        rw [hzero, hl, hf]
        simp only [Sem.run_bind, hnr, Result.andThen_ok, Sem.run_pure]
  · rintro v H' ⟨b, rfl, rfl⟩
    exact k b
end
end Go.Rx
