/- The rule layer: the guarded operations of '&&' and '||', taken as one step whose value is one word; some single operations more. -/
import Derived.Test.YtcggppjpnepoiaaDoorRxNf2
import Derived.Laws.IdiomStrings
namespace Go.Rx
open Go Go.RowKit
set_option linter.unusedVariables false
set_option linter.unusedSimpArgs false
theorem wpList_append {P : Program} {ops : Array Oper} {Q Q' : Exit → Act → World → Prop} (hQ : ∀ x a w, Q x a w → x = .normal) {l2 : List Oper} (h2 : ∀ a w, Q .normal a w → wpList P ops Q' l2 a w) : ∀ (l1 : List Oper) (a : Act) (w : World), wpList P ops Q l1 a w → wpList P ops Q' (l1 ++ l2) a w
  | [], a, w, h => h2 a w h
  | o :: rest, a, w, h => by
    have hout : ¬ LetsOut Q := by
      rintro ⟨a, w, hq⟩
      have := hQ _ _ _ hq
      cases this
    simp only [List.cons_append, wpList] at h ⊢
    split
    · rename_i hw
      rw [if_pos hw] at h
      rcases h with h | h
      · exact .inl (upon_change hQ (fun a w => wpList_append hQ h2 rest a w) h)
      · exact absurd h.2 hout
    · rename_i hw
      rw [if_neg hw] at h
      exact wpList_append hQ h2 rest _ _ h
theorem wpQuiet_append {P : Program} {ops : Array Oper} {C : World → Prop} {Q Q' : Act → Prop} {l2 : List Oper} (h2 : ∀ a, Q a → wpQuiet P ops C Q' l2 a) : ∀ (l1 : List Oper) (a : Act), wpQuiet P ops C Q l1 a → wpQuiet P ops C Q' (l1 ++ l2) a
  | [], a, h => h2 a h
  | o :: rest, a, h => by
    simp only [List.cons_append, wpQuiet] at h ⊢
    split
    · rename_i hw
      rw [if_pos hw] at h
      exact Oper.quiet_mono' (fun a => wpQuiet_append h2 rest a) h
    · rename_i hw
      rw [if_neg hw] at h
      exact wpQuiet_append h2 rest _ h
section
variable {P : Program} {n : Nat} {ops : Array Oper} {w0 : World} {Cs H : List Chunk} {e : Env} {K : Env → List Chunk → Prop} {rest : List Oper}
theorem Seq.appendL {l1 l2 : List Oper} (h : Seq P n ops w0 Cs l1 H e (fun e' H' => Seq P n ops w0 Cs l2 H' e' K)) : Seq P n ops w0 Cs (l1 ++ l2) H e K := by
  intro a w hf hw
  refine wpList_append (fun x a w h => h.1) ?_ l1 a w (h a w hf hw)
  rintro a' w' ⟨_, e', H', h1, h2, h3⟩
  exact h3 a' w' h1 h2
theorem Qui.appendL {K : Env → Prop} {l1 l2 : List Oper} (h : Qui P n ops w0 Cs H l1 e (fun e' => Qui P n ops w0 Cs H l2 e' K)) : Qui P n ops w0 Cs H (l1 ++ l2) e K := by
  intro a hf
  refine wpQuiet_append ?_ l1 a (h a hf)
  rintro a' ⟨e', h1, h2⟩
  exact h2 a' h1
theorem Seq.monoK {l : List Oper} {K' : Env → List Chunk → Prop} (h : Seq P n ops w0 Cs l H e K) (hk : ∀ e' H', K e' H' → K' e' H') : Seq P n ops w0 Cs l H e K' := by
  have := Seq.appendL (l1 := l) (l2 := []) (P := P) (n := n) (ops := ops) (w0 := w0) (Cs := Cs) (H := H) (e := e) (K := K')
    (fun a w hf hw => by
      have h1 := h a w hf hw
      have := wpList_append (Q' := fun x a' w' => x = .normal ∧ ∃ e' H', Fits n e' a' ∧ Upd w0 w' Cs H' ∧ Seq P n ops w0 Cs [] H' e' K') (l2 := []) (fun x a w h => h.1) (fun a w ⟨_, e', H', h1, h2, h3⟩ => ⟨rfl, e', H', h1, h2, Seq.nil (hk _ _ h3)⟩) l a w h1
      rwa [List.append_nil] at this)
  rwa [List.append_nil] at this
theorem Qui.monoK {l : List Oper} {K K' : Env → Prop} (h : Qui P n ops w0 Cs H l e K) (hk : ∀ e', K e' → K' e') : Qui P n ops w0 Cs H l e K' :=
  fun a hf => wpQuiet_mono (fun a ⟨e', h1, h2⟩ => ⟨e', h1, hk _ h2⟩) l a (h a hf)
/-- What a group of guarded operations leaves: the slots D hold whatever, slot t the word. -/
def Grp (D : List Nat) (e : Env) (t : Nat) (b : Bool) (e' : Env) : Prop := Off D e' e ∧ Look e' (.tmp t) (.bool b)
theorem Grp.mix {D : List Nat} {e e' : Env} {t : Nat} {b : Bool} (h : Grp D e t b e') : e' = upd (Rx.mix D e' e) t (.bool b) := by
  funext j
  by_cases hj : j = t
  · subst hj
    rw [upd_same]
    exact h.2.eq
  · rw [upd_ne _ _ hj]
    simp only [Rx.mix]
    split
    · rfl
    · rename_i hd
      exact h.1.eq j hd
theorem Seq.andG {D : List Nat} {d t k : Nat} {a : Bool} {l : List Oper} (hc : Look e (.tmp d) (.bool a) := by repeat (first | exact Look.here | apply Look.there (hne := rfl) | exact Look.const | apply Look.mix rfl | exact Look.arg0 | apply Look.args | exact Look.func))
    (hn : a = false → Seq P n ops w0 Cs (l.take k) H (upd e d (.bool false)) (fun e' H' => H' = H ∧ Grp D e t false e'))
    (hx : ∃ b, (a = true → Seq P n ops w0 Cs (l.take k) H (upd e d (.bool true)) (fun e' H' => H' = H ∧ Grp D e t b e')) ∧
      (∀ u, Seq P n ops w0 Cs (l.drop k) H (upd (mix D u e) t (.bool (a && b))) K)) : Seq P n ops w0 Cs l H e K := by
  obtain ⟨b, hy, hk⟩ := hx
  rw [← List.take_append_drop k l]
  refine Seq.appendL ?_
  have he : upd e d (.bool a) = e := by
    funext j
    by_cases hj : j = d
    · subst hj; rw [upd_same]; exact hc.eq.symm
    · rw [upd_ne _ _ hj]
  have h2 : Seq P n ops w0 Cs (l.take k) H e (fun e' H' => H' = H ∧ Grp D e t (a && b) e') := by
    cases a with
    | true => rw [he] at hy; exact hy rfl
    | false => rw [he] at hn; exact hn rfl
  refine h2.monoK ?_
  rintro e' H' ⟨rfl, hg⟩
  rw [hg.mix]
  exact hk e'
theorem Seq.orG {D : List Nat} {d t k : Nat} {a : Bool} {l : List Oper} (hc : Look e (.tmp d) (.bool a) := by repeat (first | exact Look.here | apply Look.there (hne := rfl) | exact Look.const | apply Look.mix rfl | exact Look.arg0 | apply Look.args | exact Look.func))
    (hn : a = true → Seq P n ops w0 Cs (l.take k) H (upd e d (.bool true)) (fun e' H' => H' = H ∧ Grp D e t true e'))
    (hx : ∃ b, (a = false → Seq P n ops w0 Cs (l.take k) H (upd e d (.bool false)) (fun e' H' => H' = H ∧ Grp D e t b e')) ∧
      (∀ u, Seq P n ops w0 Cs (l.drop k) H (upd (mix D u e) t (.bool (a || b))) K)) : Seq P n ops w0 Cs l H e K := by
  obtain ⟨b, hy, hk⟩ := hx
  rw [← List.take_append_drop k l]
  refine Seq.appendL ?_
  have he : upd e d (.bool a) = e := by
    funext j
    by_cases hj : j = d
    · subst hj; rw [upd_same]; exact hc.eq.symm
    · rw [upd_ne _ _ hj]
  have h2 : Seq P n ops w0 Cs (l.take k) H e (fun e' H' => H' = H ∧ Grp D e t (a || b) e') := by
    cases a with
    | true => rw [he] at hn; exact hn rfl
    | false => rw [he] at hy; exact hy rfl
  refine h2.monoK ?_
  rintro e' H' ⟨rfl, hg⟩
  rw [hg.mix]
  exact hk e'
theorem Qui.andG {K : Env → Prop} {D : List Nat} {d t k : Nat} {a : Bool} {l : List Oper} (hc : Look e (.tmp d) (.bool a) := by repeat (first | exact Look.here | apply Look.there (hne := rfl) | exact Look.const | apply Look.mix rfl | exact Look.arg0 | apply Look.args | exact Look.func))
    (hn : a = false → Qui P n ops w0 Cs H (l.take k) (upd e d (.bool false)) (fun e' => Grp D e t false e'))
    (hx : ∃ b, (a = true → Qui P n ops w0 Cs H (l.take k) (upd e d (.bool true)) (fun e' => Grp D e t b e')) ∧
      (∀ u, Qui P n ops w0 Cs H (l.drop k) (upd (mix D u e) t (.bool (a && b))) K)) : Qui P n ops w0 Cs H l e K := by
  obtain ⟨b, hy, hk⟩ := hx
  rw [← List.take_append_drop k l]
  refine Qui.appendL ?_
  have he : upd e d (.bool a) = e := by
    funext j
    by_cases hj : j = d
    · subst hj; rw [upd_same]; exact hc.eq.symm
    · rw [upd_ne _ _ hj]
  have h2 : Qui P n ops w0 Cs H (l.take k) e (fun e' => Grp D e t (a && b) e') := by
    cases a with
    | true => rw [he] at hy; exact hy rfl
    | false => rw [he] at hn; exact hn rfl
  refine h2.monoK ?_
  intro e' hg
  rw [hg.mix]
  exact hk e'
theorem Qui.orG {K : Env → Prop} {D : List Nat} {d t k : Nat} {a : Bool} {l : List Oper} (hc : Look e (.tmp d) (.bool a) := by repeat (first | exact Look.here | apply Look.there (hne := rfl) | exact Look.const | apply Look.mix rfl | exact Look.arg0 | apply Look.args | exact Look.func))
    (hn : a = true → Qui P n ops w0 Cs H (l.take k) (upd e d (.bool true)) (fun e' => Grp D e t true e'))
    (hx : ∃ b, (a = false → Qui P n ops w0 Cs H (l.take k) (upd e d (.bool false)) (fun e' => Grp D e t b e')) ∧
      (∀ u, Qui P n ops w0 Cs H (l.drop k) (upd (mix D u e) t (.bool (a || b))) K)) : Qui P n ops w0 Cs H l e K := by
  obtain ⟨b, hy, hk⟩ := hx
  rw [← List.take_append_drop k l]
  refine Qui.appendL ?_
  have he : upd e d (.bool a) = e := by
    funext j
    by_cases hj : j = d
    · subst hj; rw [upd_same]; exact hc.eq.symm
    · rw [upd_ne _ _ hj]
  have h2 : Qui P n ops w0 Cs H (l.take k) e (fun e' => Grp D e t (a || b) e') := by
    cases a with
    | true => rw [he] at hn; exact hn rfl
    | false => rw [he] at hy; exact hy rfl
  refine h2.monoK ?_
  intro e' hg
  rw [hg.mix]
  exact hk e'
end

/-! ### single operations -/
section
variable {P : Program} {w0 : World} {Cs H : List Chunk} {e : Env} {ty tx ty' : TypeId} {x y : Operand} {k k' : IntKind} {a b : Int}
theorem Ev.nilP {ad : Addr} (hx : Look e x (.pointer (some ad)) := by repeat (first | exact Look.here | apply Look.there (hne := rfl) | exact Look.const | apply Look.mix rfl | exact Look.arg0 | apply Look.args | exact Look.func)) : Ev P w0 Cs H e (.nilCheck x) ty (.pointer (some ad)) := by
  intro w _ d pos af g
  replace hx := hx.eq
  simp [execOp, hx]
theorem Ev.min {ts : List TypeId} (hx : Look e x (.int k a) := by repeat (first | exact Look.here | apply Look.there (hne := rfl) | exact Look.const | apply Look.mix rfl | exact Look.arg0 | apply Look.args | exact Look.func)) (hy : Look e y (.int k b) := by repeat (first | exact Look.here | apply Look.there (hne := rfl) | exact Look.const | apply Look.mix rfl | exact Look.arg0 | apply Look.args | exact Look.func)) : Ev P w0 Cs H e (.call ⟨.builtin .min, #[x, y], ts.toArray⟩) ty (.int k (if b < a then b else a)) := by
  intro w _ d pos af g
  replace hx := hx.eq
  replace hy := hy.eq
  simp [execOp, resolve, invoke, builtin, hx, hy, Builtin.min_, Builtin.min2]
theorem Ev.max {ts : List TypeId} (hx : Look e x (.int k a) := by repeat (first | exact Look.here | apply Look.there (hne := rfl) | exact Look.const | apply Look.mix rfl | exact Look.arg0 | apply Look.args | exact Look.func)) (hy : Look e y (.int k b) := by repeat (first | exact Look.here | apply Look.there (hne := rfl) | exact Look.const | apply Look.mix rfl | exact Look.arg0 | apply Look.args | exact Look.func)) : Ev P w0 Cs H e (.call ⟨.builtin .max, #[x, y], ts.toArray⟩) ty (.int k (if a < b then b else a)) := by
  intro w _ d pos af g
  replace hx := hx.eq
  replace hy := hy.eq
  simp [execOp, resolve, invoke, builtin, hx, hy, Builtin.max_, Builtin.max2]
/-- A number that is not below 0, shifted up within its kind. -/
theorem Ev.shlB {r : Int} (hx : Look e x (.int k a) := by repeat (first | exact Look.here | apply Look.there (hne := rfl) | exact Look.const | apply Look.mix rfl | exact Look.arg0 | apply Look.args | exact Look.func)) (hy : Look e y (.int k' b) := by repeat (first | exact Look.here | apply Look.there (hne := rfl) | exact Look.const | apply Look.mix rfl | exact Look.arg0 | apply Look.args | exact Look.func)) (hb : 0 ≤ b := by omega) (hr : k.wrap (a * 2 ^ (Min.min b.toNat k.bits)) = r) : Ev P w0 Cs H e (.binOp .shl tx x y ty') ty (.int k r) := by
  have := Ev.shlW (P := P) (w0 := w0) (Cs := Cs) (H := H) (ty := ty) (tx := tx) (ty' := ty') hx hy hb
  rwa [hr] at this
theorem Ev.dec {m : Nat} (hx : Look e x (.int .i64 (m : Int)) := by repeat (first | exact Look.here | apply Look.there (hne := rfl) | exact Look.const | apply Look.mix rfl | exact Look.arg0 | apply Look.args | exact Look.func)) (h : 1 ≤ m ∧ m ≤ 9223372036854775807 := by omega) : Ev P w0 Cs H e (.binOp .sub tx x (.const (.int .i64 1)) ty') ty (.int .i64 ((m - 1 : Nat) : Int)) := by
  have h2 := Ev.sub (P := P) (w0 := w0) (Cs := Cs) (H := H) (ty := ty) (tx := tx) (ty' := ty') hx (Look.const (v := .int .i64 1)) (by omega)
  have e1 : ((m - 1 : Nat) : Int) = (m : Int) - 1 := by omega
  rw [e1]
  exact h2
/-- A string of bytes. -/
def byteEnc (n : Int) : List Value := [.int .u8 n]
def strOf (l : List Int) : ByteArray := l.foldl (fun r n => r.push (UInt8.ofNat n.toNat)) ByteArray.empty
theorem Ev.strOf {s el : TypeId} {l : List Int} {v : Value} (hs : slcOf P s el 1 = true) (he : intOfT P el .u8 = true) (hd : isStr P ty' = true) (hx : Look e x v := by repeat (first | exact Look.here | apply Look.there (hne := rfl) | exact Look.const | apply Look.mix rfl | exact Look.arg0 | apply Look.args | exact Look.func)) (hr : RAt w0 Cs H byteEnc 1 v l) : Ev P w0 Cs H e (.convert s ty' x) ty (.string (strOf l)) := by
  intro w hw d pos af g
  replace hx := hx.eq
  obtain ⟨C, hr⟩ := hr w hw
  obtain ⟨A, c, rfl, hc, hA⟩ := hr.shape
  have h1 := run_convert_bytes_string (P := P) w s ty' el A l.length c (slcOf_und hs).1 (intOfT_und he) (isStr_und hd)
  have h2 : (Conv.bytesToString (.slice A l.length c)).run P w = .ok (.string (Rx.strOf l)) w := by
    cases A with
    | none =>
      have := hA rfl
      subst this
      rfl
    | some ad =>
      refine run_bytesToString w ad l.length c l ?_
      have := run_loadCells_list (P := P) w ad (l.map (Value.int .u8)) (fun j u hu => by
        have hj : j < l.length := by
          have := (List.getElem?_eq_some_iff.1 hu).1
          simpa using this
        have h3 := (hr.cell j hj 0 (.int .u8 l[j]!) rfl).1
        simp only [sbase, Nat.mul_one, Nat.add_zero] at h3
        rw [h3]
        rw [List.getElem?_map, List.getElem?_eq_getElem hj] at hu
        rw [getElem!_pos l j hj]
        simpa using hu)
      simpa using this
  simp [execOp, hx, h1, h2]
end
end Go.Rx
