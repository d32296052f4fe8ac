/- The rule layer of these proofs. -/
import Derived.Test.YthpejgmkiomfhaaGreatDoorRxL1
import Derived.Laws.IdiomStrings
import Derived.Lib.AppendZeros
import Derived.Laws.MakeOwn
import Derived.Laws.Pointers
import Derived.Lib.BufferMore
import Derived.Lib.Overlaps
import Derived.Laws.Externs
import Derived.Lib.Mul64
import Derived.HandedShaped
set_option linter.unusedVariables false
set_option linter.unusedSimpArgs false
/- The rule layer: the rules of structs, slice literals and stores once more, over values that are looked up first, so that what is stored stays short. -/
namespace Go.Rx
open Go Go.RowKit
set_option linter.unusedVariables false
set_option linter.unusedSimpArgs false
/-- The operands of a literal, looked up. -/
inductive Looks (e : Env) : List (Nat × Operand) → List (Nat × Value) → Prop
  | nil : Looks e [] []
  | cons {i : Nat} {x : Operand} {v : Value} {l : List (Nat × Operand)} {r : List (Nat × Value)} (h : Look e x v) (t : Looks e l r) : Looks e ((i, x) :: l) ((i, v) :: r)
theorem Looks.eq {e : Env} {l : List (Nat × Operand)} {r : List (Nat × Value)} (h : Looks e l r) : l.map (fun p => (p.1, ev e p.2)) = r := by
  induction h with
  | nil => rfl
  | cons h t ih => rw [List.map_cons, ih, h.eq]
section
variable {P : Program} {n : Nat} {ops : Array Oper} {w0 : World} {Cs H : List Chunk} {e : Env} {K : Env → List Chunk → Prop} {rest : List Oper}
  {t : Nat} {ty : TypeId} {pos : String} {af : Array Edge} {x y : Operand}
theorem Ev.buildN {t : TypeId} {zs : List Value} (cs : List Value) {pl : List (Nat × Nat)} {l : List (Nat × Operand)} {r : List (Nat × Value)} (hpl : fieldPlaces P t = some pl) (hz : zeroOf P t = some (.agg zs.toArray))
    (hl : Looks e l r := by repeat (first | exact Look.here | apply Look.there (hne := rfl) | exact Look.const | apply Look.mix rfl | exact Look.arg0 | apply Look.args | exact Look.func | exact Looks.nil | apply Looks.cons)) (hcs : fillL (pl[·]?) zs r = some cs := by rfl) : Ev P w0 Cs H e (.build t l.toArray) ty (.agg cs.toArray) :=
  Ev.build hpl hz (by rw [hl.eq]; exact hcs)
theorem Ev.buildArrN {t el : TypeId} {len sz : Nat} {zs : List Value} (cs : List Value) {l : List (Nat × Operand)} {r : List (Nat × Value)} (hs : arrOf P t len el sz = true) (hz : zeroOf P t = some (.agg zs.toArray))
    (hl : Looks e l r := by repeat (first | exact Look.here | apply Look.there (hne := rfl) | exact Look.const | apply Look.mix rfl | exact Look.arg0 | apply Look.args | exact Look.func | exact Looks.nil | apply Looks.cons)) (hcs : fillL (fun i => some (i * sz, sz)) zs r = some cs := by rfl) : Ev P w0 Cs H e (.build t l.toArray) ty (.agg cs.toArray) :=
  Ev.buildArr hs hz (by rw [hl.eq]; exact hcs)
theorem Seq.buildSlN {ts el : TypeId} {size len : Nat} {z : Value} {zs : List Value} (cs : List Value) {l : List (Nat × Operand)} {r : List (Nat × Value)} (ht : Nat.blt t n = true := by rfl) (hsl : slcOf P ts el size = true) (hz : zeroOf P el = some z) (hzs : cellsL z = zs := by rfl) (hlen : Nat.ble (len * size) 16777216 = true := by rfl)
    (hl : Looks e l r := by repeat (first | exact Look.here | apply Look.there (hne := rfl) | exact Look.const | apply Look.mix rfl | exact Look.arg0 | apply Look.args | exact Look.func | exact Looks.nil | apply Looks.cons))
    (hcs : fillL (fun i => some (i * size, size)) ((List.range (len * size)).map fun q => zs[q % zs.length]!) r = some cs := by rfl)
    (k : ∀ b, Seq P n ops w0 Cs rest (.box b el cs :: H) (upd e t (.slice (some ⟨b, 0, none⟩) len len)) K) :
    Seq P n ops w0 Cs (⟨some t, .buildSlice ts len l.toArray, ty, pos, af, none⟩ :: rest) H e K :=
  Seq.buildSl ht hsl hz hzs hlen (by rw [hl.eq]; exact hcs) k
theorem Seq.storeN {el tb : TypeId} {b off i m : Nat} {cs vs : List Value} {v : Value} (cs' : List Value) (hsz : szOf P el m = true) (hx : Look e x (.pointer (some ⟨b, off, none⟩)) := by repeat (first | exact Look.here | apply Look.there (hne := rfl) | exact Look.const | apply Look.mix rfl | exact Look.arg0 | apply Look.args | exact Look.func)) (hy : Look e y v := by repeat (first | exact Look.here | apply Look.there (hne := rfl) | exact Look.const | apply Look.mix rfl | exact Look.arg0 | apply Look.args | exact Look.func)) (hvs : cellsL v = vs := by rfl) (hm : vs.length = m := by rfl)
    (h1 : (vs.all fun u => u.oneCell') = true := by rfl) (hH : At H i (.box b tb cs) := by repeat (first | exact At.z | apply At.s)) (hfit : Nat.ble (off + vs.length) cs.length = true := by rfl) (hcs : cs.take off ++ vs ++ cs.drop (off + vs.length) = cs' := by rfl)
    (k : Seq P n ops w0 Cs rest (H.set i (.box b tb cs')) e K) :
    Seq P n ops w0 Cs (⟨none, .store el x y, ty, pos, af, none⟩ :: rest) H e K :=
  Seq.storeTo hsz hx hy hvs hm h1 hH (by simpa using hfit) hcs k
theorem Ev.ldBPN {t tb : TypeId} {bk off i n : Nat} {cs : List Value} (ds : List Value) (ht : isAg P t n = true) (hx : Look e x (.pointer (some ⟨bk, off, none⟩)) := by repeat (first | exact Look.here | apply Look.there (hne := rfl) | exact Look.const | apply Look.mix rfl | exact Look.arg0 | apply Look.args | exact Look.func)) (hH : At H i (.box bk tb cs) := by repeat (first | exact At.z | apply At.s)) (hn : (cs.drop off).take n = ds := by rfl) (hl : ds.length = n := by rfl) : Ev P w0 Cs H e (.load t x) ty (.agg ds.toArray) := by
  subst hn
  exact Ev.ldBP ht hx hH hl
end
end Go.Rx
/- The rule layer: literals of many parts: each part is laid in by one pass over the list. -/
namespace Go.Rx
open Go Go.RowKit
set_option linter.unusedVariables false
set_option linter.unusedSimpArgs false
def splice : List Value → Nat → List Value → List Value
  | c :: cs, 0, v :: vs => v :: splice cs 0 vs
  | c :: cs, n + 1, vs => c :: splice cs n vs
  | cs, _, _ => cs
theorem splice_eq (cs vs : List Value) (off : Nat) (h : off + vs.length ≤ cs.length) : splice cs off vs = cs.take off ++ vs ++ cs.drop (off + vs.length) := by
  induction cs generalizing off vs with
  | nil =>
    simp only [List.length_nil] at h
    have h1 : vs = [] := List.eq_nil_of_length_eq_zero (by omega)
    subst h1
    simp [splice]
  | cons c cs ih =>
    cases off with
    | zero =>
      cases vs with
      | nil => simp [splice]
      | cons v vs =>
        simp only [List.length_cons] at h
        simp only [splice, List.take_zero, List.nil_append, List.cons_append, List.length_cons]
        rw [ih vs 0 (by omega)]
        simp
    | succ n =>
      simp only [List.length_cons] at h
      simp only [splice, List.take_succ_cons, List.cons_append]
      rw [ih vs n (by omega)]
      have : n + 1 + vs.length = n + vs.length + 1 := by omega
      rw [this, List.drop_succ_cons]
theorem splice_length (cs vs : List Value) (off : Nat) (h : off + vs.length ≤ cs.length) : (splice cs off vs).length = cs.length := by
  rw [splice_eq cs vs off h]
  simp
  omega
def fillS (place : Nat → Option (Nat × Nat)) (n : Nat) (cs : List Value) : List (Nat × Value) → Option (List Value)
  | [] => some cs
  | (i, v) :: r =>
    match place i with
    | none => none
    | some (off, size) => match Nat.beq (cellsL v).length size, Nat.ble (off + (cellsL v).length) n with
      | true, true => fillS place n (splice cs off (cellsL v)) r
      | _, _ => none
theorem fillS_eq (place : Nat → Option (Nat × Nat)) (n : Nat) (r : List (Nat × Value)) (cs ds : List Value) (hn : cs.length = n) (h : fillS place n cs r = some ds) : fillL place cs r = some ds := by
  induction r generalizing cs with
  | nil => exact h
  | cons p r ih =>
    obtain ⟨i, v⟩ := p
    unfold fillS at h
    unfold fillL
    cases hp : place i with
    | none => rw [hp] at h; cases h
    | some q =>
      obtain ⟨off, size⟩ := q
      rw [hp] at h
      dsimp only at h ⊢
      rw [hn]
      cases h1 : Nat.beq (cellsL v).length size with
      | false => rw [h1] at h; simp at h
      | true =>
        cases h2 : Nat.ble (off + (cellsL v).length) n with
        | false => rw [h1, h2] at h; simp at h
        | true =>
          rw [h1, h2] at h
          dsimp only at h ⊢
          have hle : off + (cellsL v).length ≤ cs.length := by
            have := Nat.le_of_ble_eq_true h2
            omega
          rw [← splice_eq cs (cellsL v) off hle]
          exact ih _ (by rw [splice_length cs _ off hle]; exact hn) h
section
variable {P : Program} {n : Nat} {ops : Array Oper} {w0 : World} {Cs H : List Chunk} {e : Env} {K : Env → List Chunk → Prop} {rest : List Oper}
  {t : Nat} {ty : TypeId} {pos : String} {af : Array Edge} {x y : Operand}
theorem Ev.buildS {t : TypeId} {zs : List Value} (cs : List Value) {pl : List (Nat × Nat)} {l : List (Nat × Operand)} {r : List (Nat × Value)} (hpl : fieldPlaces P t = some pl) (hz : zeroOf P t = some (.agg zs.toArray))
    (hl : Looks e l r := by repeat (first | exact Look.here | apply Look.there (hne := rfl) | exact Look.const | apply Look.mix rfl | exact Look.arg0 | apply Look.args | exact Look.func | exact Looks.nil | apply Looks.cons)) (hcs : fillS (pl[·]?) zs.length zs r = some cs := by rfl) : Ev P w0 Cs H e (.build t l.toArray) ty (.agg cs.toArray) :=
  Ev.build hpl hz (by rw [hl.eq]; exact fillS_eq _ _ _ _ _ rfl hcs)
theorem Seq.buildSlS {ts el : TypeId} {size len : Nat} {z : Value} {zs : List Value} (cs : List Value) {l : List (Nat × Operand)} {r : List (Nat × Value)} (ht : Nat.blt t n = true := by rfl) (hsl : slcOf P ts el size = true) (hz : zeroOf P el = some z) (hzs : cellsL z = zs := by rfl) (hlen : Nat.ble (len * size) 16777216 = true := by rfl)
    (hl : Looks e l r := by repeat (first | exact Look.here | apply Look.there (hne := rfl) | exact Look.const | apply Look.mix rfl | exact Look.arg0 | apply Look.args | exact Look.func | exact Looks.nil | apply Looks.cons))
    (hcs : fillS (fun i => some (i * size, size)) (len * size) ((List.range (len * size)).map fun q => zs[q % zs.length]!) r = some cs := by rfl)
    (k : ∀ b, Seq P n ops w0 Cs rest (.box b el cs :: H) (upd e t (.slice (some ⟨b, 0, none⟩) len len)) K) :
    Seq P n ops w0 Cs (⟨some t, .buildSlice ts len l.toArray, ty, pos, af, none⟩ :: rest) H e K :=
  Seq.buildSl ht hsl hz hzs hlen (by rw [hl.eq]; exact fillS_eq _ _ _ _ _ (by simp) hcs) k
end
end Go.Rx
/- The rule layer: the guarded operations of '&&' and '||', taken as one step whose value is one word; some single operations more. -/
namespace Go.Rx
open Go Go.RowKit
set_option linter.unusedVariables false
set_option linter.unusedSimpArgs false
theorem wpList_append {P : Program} {ops : Array Oper} {Q Q' : Exit → Act → World → Prop} (hQ : ∀ x a w, Q x a w → x = .normal) {l2 : List Oper} (h2 : ∀ a w, Q .normal a w → wpList P ops Q' l2 a w) : ∀ (l1 : List Oper) (a : Act) (w : World), wpList P ops Q l1 a w → wpList P ops Q' (l1 ++ l2) a w
  | [], a, w, h => h2 a w h
  | o :: rest, a, w, h => by
    have hout : ¬ LetsOut Q := by
      rintro ⟨a, w, hq⟩
      have := hQ _ _ _ hq
      cases this
    simp only [List.cons_append, wpList] at h ⊢
    split
    · rename_i hw
      rw [if_pos hw] at h
      rcases h with h | h
      · exact .inl (upon_change hQ (fun a w => wpList_append hQ h2 rest a w) h)
      · exact absurd h.2 hout
    · rename_i hw
      rw [if_neg hw] at h
      exact wpList_append hQ h2 rest _ _ h
theorem wpQuiet_append {P : Program} {ops : Array Oper} {C : World → Prop} {Q Q' : Act → Prop} {l2 : List Oper} (h2 : ∀ a, Q a → wpQuiet P ops C Q' l2 a) : ∀ (l1 : List Oper) (a : Act), wpQuiet P ops C Q l1 a → wpQuiet P ops C Q' (l1 ++ l2) a
  | [], a, h => h2 a h
  | o :: rest, a, h => by
    simp only [List.cons_append, wpQuiet] at h ⊢
    split
    · rename_i hw
      rw [if_pos hw] at h
      exact Oper.quiet_mono' (fun a => wpQuiet_append h2 rest a) h
    · rename_i hw
      rw [if_neg hw] at h
      exact wpQuiet_append h2 rest _ h
section
variable {P : Program} {n : Nat} {ops : Array Oper} {w0 : World} {Cs H : List Chunk} {e : Env} {K : Env → List Chunk → Prop} {rest : List Oper}
theorem Seq.appendL {l1 l2 : List Oper} (h : Seq P n ops w0 Cs l1 H e (fun e' H' => Seq P n ops w0 Cs l2 H' e' K)) : Seq P n ops w0 Cs (l1 ++ l2) H e K := by
  intro a w hf hw
  refine wpList_append (fun x a w h => h.1) ?_ l1 a w (h a w hf hw)
  rintro a' w' ⟨_, e', H', h1, h2, h3⟩
  exact h3 a' w' h1 h2
theorem Qui.appendL {K : Env → Prop} {l1 l2 : List Oper} (h : Qui P n ops w0 Cs H l1 e (fun e' => Qui P n ops w0 Cs H l2 e' K)) : Qui P n ops w0 Cs H (l1 ++ l2) e K := by
  intro a hf
  refine wpQuiet_append ?_ l1 a (h a hf)
  rintro a' ⟨e', h1, h2⟩
  exact h2 a' h1
theorem Seq.monoK {l : List Oper} {K' : Env → List Chunk → Prop} (h : Seq P n ops w0 Cs l H e K) (hk : ∀ e' H', K e' H' → K' e' H') : Seq P n ops w0 Cs l H e K' := by
  have := Seq.appendL (l1 := l) (l2 := []) (P := P) (n := n) (ops := ops) (w0 := w0) (Cs := Cs) (H := H) (e := e) (K := K')
    (fun a w hf hw => by
      have h1 := h a w hf hw
      have := wpList_append (Q' := fun x a' w' => x = .normal ∧ ∃ e' H', Fits n e' a' ∧ Upd w0 w' Cs H' ∧ Seq P n ops w0 Cs [] H' e' K') (l2 := []) (fun x a w h => h.1) (fun a w ⟨_, e', H', h1, h2, h3⟩ => ⟨rfl, e', H', h1, h2, Seq.nil (hk _ _ h3)⟩) l a w h1
      rwa [List.append_nil] at this)
  rwa [List.append_nil] at this
theorem Qui.monoK {l : List Oper} {K K' : Env → Prop} (h : Qui P n ops w0 Cs H l e K) (hk : ∀ e', K e' → K' e') : Qui P n ops w0 Cs H l e K' :=
  fun a hf => wpQuiet_mono (fun a ⟨e', h1, h2⟩ => ⟨e', h1, hk _ h2⟩) l a (h a hf)
/-- What a group of guarded operations leaves: the slots D hold whatever, slot t the word. -/
def Grp (D : List Nat) (e : Env) (t : Nat) (b : Bool) (e' : Env) : Prop := Off D e' e ∧ Look e' (.tmp t) (.bool b)
theorem Grp.mix {D : List Nat} {e e' : Env} {t : Nat} {b : Bool} (h : Grp D e t b e') : e' = upd (Rx.mix D e' e) t (.bool b) := by
  funext j
  by_cases hj : j = t
  · subst hj
    rw [upd_same]
    exact h.2.eq
  · rw [upd_ne _ _ hj]
    simp only [Rx.mix]
    split
    · rfl
    · rename_i hd
      exact h.1.eq j hd
theorem Seq.andG {D : List Nat} {d t k : Nat} {a : Bool} {l : List Oper} (hc : Look e (.tmp d) (.bool a) := by repeat (first | exact Look.here | apply Look.there (hne := rfl) | exact Look.const | apply Look.mix rfl | exact Look.arg0 | apply Look.args | exact Look.func))
    (hn : a = false → Seq P n ops w0 Cs (l.take k) H (upd e d (.bool false)) (fun e' H' => H' = H ∧ Grp D e t false e'))
    (hx : ∃ b, (a = true → Seq P n ops w0 Cs (l.take k) H (upd e d (.bool true)) (fun e' H' => H' = H ∧ Grp D e t b e')) ∧
      (∀ u, Seq P n ops w0 Cs (l.drop k) H (upd (mix D u e) t (.bool (a && b))) K)) : Seq P n ops w0 Cs l H e K := by
  obtain ⟨b, hy, hk⟩ := hx
  rw [← List.take_append_drop k l]
  refine Seq.appendL ?_
  have he : upd e d (.bool a) = e := by
    funext j
    by_cases hj : j = d
    · subst hj; rw [upd_same]; exact hc.eq.symm
    · rw [upd_ne _ _ hj]
  have h2 : Seq P n ops w0 Cs (l.take k) H e (fun e' H' => H' = H ∧ Grp D e t (a && b) e') := by
    cases a with
    | true => rw [he] at hy; exact hy rfl
    | false => rw [he] at hn; exact hn rfl
  refine h2.monoK ?_
  rintro e' H' ⟨rfl, hg⟩
  rw [hg.mix]
  exact hk e'
theorem Seq.orG {D : List Nat} {d t k : Nat} {a : Bool} {l : List Oper} (hc : Look e (.tmp d) (.bool a) := by repeat (first | exact Look.here | apply Look.there (hne := rfl) | exact Look.const | apply Look.mix rfl | exact Look.arg0 | apply Look.args | exact Look.func))
    (hn : a = true → Seq P n ops w0 Cs (l.take k) H (upd e d (.bool true)) (fun e' H' => H' = H ∧ Grp D e t true e'))
    (hx : ∃ b, (a = false → Seq P n ops w0 Cs (l.take k) H (upd e d (.bool false)) (fun e' H' => H' = H ∧ Grp D e t b e')) ∧
      (∀ u, Seq P n ops w0 Cs (l.drop k) H (upd (mix D u e) t (.bool (a || b))) K)) : Seq P n ops w0 Cs l H e K := by
  obtain ⟨b, hy, hk⟩ := hx
  rw [← List.take_append_drop k l]
  refine Seq.appendL ?_
  have he : upd e d (.bool a) = e := by
    funext j
    by_cases hj : j = d
    · subst hj; rw [upd_same]; exact hc.eq.symm
    · rw [upd_ne _ _ hj]
  have h2 : Seq P n ops w0 Cs (l.take k) H e (fun e' H' => H' = H ∧ Grp D e t (a || b) e') := by
    cases a with
    | true => rw [he] at hn; exact hn rfl
    | false => rw [he] at hy; exact hy rfl
  refine h2.monoK ?_
  rintro e' H' ⟨rfl, hg⟩
  rw [hg.mix]
  exact hk e'
theorem Qui.andG {K : Env → Prop} {D : List Nat} {d t k : Nat} {a : Bool} {l : List Oper} (hc : Look e (.tmp d) (.bool a) := by repeat (first | exact Look.here | apply Look.there (hne := rfl) | exact Look.const | apply Look.mix rfl | exact Look.arg0 | apply Look.args | exact Look.func))
    (hn : a = false → Qui P n ops w0 Cs H (l.take k) (upd e d (.bool false)) (fun e' => Grp D e t false e'))
    (hx : ∃ b, (a = true → Qui P n ops w0 Cs H (l.take k) (upd e d (.bool true)) (fun e' => Grp D e t b e')) ∧
      (∀ u, Qui P n ops w0 Cs H (l.drop k) (upd (mix D u e) t (.bool (a && b))) K)) : Qui P n ops w0 Cs H l e K := by
  obtain ⟨b, hy, hk⟩ := hx
  rw [← List.take_append_drop k l]
  refine Qui.appendL ?_
  have he : upd e d (.bool a) = e := by
    funext j
    by_cases hj : j = d
    · subst hj; rw [upd_same]; exact hc.eq.symm
    · rw [upd_ne _ _ hj]
  have h2 : Qui P n ops w0 Cs H (l.take k) e (fun e' => Grp D e t (a && b) e') := by
    cases a with
    | true => rw [he] at hy; exact hy rfl
    | false => rw [he] at hn; exact hn rfl
  refine h2.monoK ?_
  intro e' hg
  rw [hg.mix]
  exact hk e'
theorem Qui.orG {K : Env → Prop} {D : List Nat} {d t k : Nat} {a : Bool} {l : List Oper} (hc : Look e (.tmp d) (.bool a) := by repeat (first | exact Look.here | apply Look.there (hne := rfl) | exact Look.const | apply Look.mix rfl | exact Look.arg0 | apply Look.args | exact Look.func))
    (hn : a = true → Qui P n ops w0 Cs H (l.take k) (upd e d (.bool true)) (fun e' => Grp D e t true e'))
    (hx : ∃ b, (a = false → Qui P n ops w0 Cs H (l.take k) (upd e d (.bool false)) (fun e' => Grp D e t b e')) ∧
      (∀ u, Qui P n ops w0 Cs H (l.drop k) (upd (mix D u e) t (.bool (a || b))) K)) : Qui P n ops w0 Cs H l e K := by
  obtain ⟨b, hy, hk⟩ := hx
  rw [← List.take_append_drop k l]
  refine Qui.appendL ?_
  have he : upd e d (.bool a) = e := by
    funext j
    by_cases hj : j = d
    · subst hj; rw [upd_same]; exact hc.eq.symm
    · rw [upd_ne _ _ hj]
  have h2 : Qui P n ops w0 Cs H (l.take k) e (fun e' => Grp D e t (a || b) e') := by
    cases a with
    | true => rw [he] at hn; exact hn rfl
    | false => rw [he] at hy; exact hy rfl
  refine h2.monoK ?_
  intro e' hg
  rw [hg.mix]
  exact hk e'
end

/-! ### single operations -/
section
variable {P : Program} {w0 : World} {Cs H : List Chunk} {e : Env} {ty tx ty' : TypeId} {x y : Operand} {k k' : IntKind} {a b : Int}
theorem Ev.nilP {ad : Addr} (hx : Look e x (.pointer (some ad)) := by repeat (first | exact Look.here | apply Look.there (hne := rfl) | exact Look.const | apply Look.mix rfl | exact Look.arg0 | apply Look.args | exact Look.func)) : Ev P w0 Cs H e (.nilCheck x) ty (.pointer (some ad)) := by
  intro w _ d pos af g
  replace hx := hx.eq
  simp [execOp, hx]
theorem Ev.min {ts : List TypeId} (hx : Look e x (.int k a) := by repeat (first | exact Look.here | apply Look.there (hne := rfl) | exact Look.const | apply Look.mix rfl | exact Look.arg0 | apply Look.args | exact Look.func)) (hy : Look e y (.int k b) := by repeat (first | exact Look.here | apply Look.there (hne := rfl) | exact Look.const | apply Look.mix rfl | exact Look.arg0 | apply Look.args | exact Look.func)) : Ev P w0 Cs H e (.call ⟨.builtin .min, #[x, y], ts.toArray⟩) ty (.int k (if b < a then b else a)) := by
  intro w _ d pos af g
  replace hx := hx.eq
  replace hy := hy.eq
  simp [execOp, resolve, invoke, builtin, hx, hy, Builtin.min_, Builtin.min2]
theorem Ev.max {ts : List TypeId} (hx : Look e x (.int k a) := by repeat (first | exact Look.here | apply Look.there (hne := rfl) | exact Look.const | apply Look.mix rfl | exact Look.arg0 | apply Look.args | exact Look.func)) (hy : Look e y (.int k b) := by repeat (first | exact Look.here | apply Look.there (hne := rfl) | exact Look.const | apply Look.mix rfl | exact Look.arg0 | apply Look.args | exact Look.func)) : Ev P w0 Cs H e (.call ⟨.builtin .max, #[x, y], ts.toArray⟩) ty (.int k (if a < b then b else a)) := by
  intro w _ d pos af g
  replace hx := hx.eq
  replace hy := hy.eq
  simp [execOp, resolve, invoke, builtin, hx, hy, Builtin.max_, Builtin.max2]
/-- A number that is not below 0, shifted up within its kind. -/
theorem Ev.shlB {r : Int} (hx : Look e x (.int k a) := by repeat (first | exact Look.here | apply Look.there (hne := rfl) | exact Look.const | apply Look.mix rfl | exact Look.arg0 | apply Look.args | exact Look.func)) (hy : Look e y (.int k' b) := by repeat (first | exact Look.here | apply Look.there (hne := rfl) | exact Look.const | apply Look.mix rfl | exact Look.arg0 | apply Look.args | exact Look.func)) (hb : 0 ≤ b := by omega) (hr : k.wrap (a * 2 ^ (Min.min b.toNat k.bits)) = r) : Ev P w0 Cs H e (.binOp .shl tx x y ty') ty (.int k r) := by
  have := Ev.shlW (P := P) (w0 := w0) (Cs := Cs) (H := H) (ty := ty) (tx := tx) (ty' := ty') hx hy hb
  rwa [hr] at this
theorem Ev.dec {m : Nat} (hx : Look e x (.int .i64 (m : Int)) := by repeat (first | exact Look.here | apply Look.there (hne := rfl) | exact Look.const | apply Look.mix rfl | exact Look.arg0 | apply Look.args | exact Look.func)) (h : 1 ≤ m ∧ m ≤ 9223372036854775807 := by omega) : Ev P w0 Cs H e (.binOp .sub tx x (.const (.int .i64 1)) ty') ty (.int .i64 ((m - 1 : Nat) : Int)) := by
  have h2 := Ev.sub (P := P) (w0 := w0) (Cs := Cs) (H := H) (ty := ty) (tx := tx) (ty' := ty') hx (Look.const (v := .int .i64 1)) (by omega)
  have e1 : ((m - 1 : Nat) : Int) = (m : Int) - 1 := by omega
  rw [e1]
  exact h2
/-- A string of bytes. -/
def byteEnc (n : Int) : List Value := [.int .u8 n]
def strOf (l : List Int) : ByteArray := l.foldl (fun r n => r.push (UInt8.ofNat n.toNat)) ByteArray.empty
theorem Ev.strOf {s el : TypeId} {l : List Int} {v : Value} (hs : slcOf P s el 1 = true) (he : intOfT P el .u8 = true) (hd : isStr P ty' = true) (hx : Look e x v := by repeat (first | exact Look.here | apply Look.there (hne := rfl) | exact Look.const | apply Look.mix rfl | exact Look.arg0 | apply Look.args | exact Look.func)) (hr : RAt w0 Cs H byteEnc 1 v l) : Ev P w0 Cs H e (.convert s ty' x) ty (.string (strOf l)) := by
  intro w hw d pos af g
  replace hx := hx.eq
  obtain ⟨C, hr⟩ := hr w hw
  obtain ⟨A, c, rfl, hc, hA⟩ := hr.shape
  have h1 := run_convert_bytes_string (P := P) w s ty' el A l.length c (slcOf_und hs).1 (intOfT_und he) (isStr_und hd)
  have h2 : (Conv.bytesToString (.slice A l.length c)).run P w = .ok (.string (Rx.strOf l)) w := by
    cases A with
    | none =>
      have := hA rfl
      subst this
      rfl
    | some ad =>
      refine run_bytesToString w ad l.length c l ?_
      have := run_loadCells_list (P := P) w ad (l.map (Value.int .u8)) (fun j u hu => by
        have hj : j < l.length := by
          have := (List.getElem?_eq_some_iff.1 hu).1
          simpa using this
        have h3 := (hr.cell j hj 0 (.int .u8 l[j]!) rfl).1
        simp only [sbase, Nat.mul_one, Nat.add_zero] at h3
        rw [h3]
        rw [List.getElem?_map, List.getElem?_eq_getElem hj] at hu
        rw [getElem!_pos l j hj]
        simpa using hu)
      simpa using this
  simp [execOp, hx, h1, h2]
end
end Go.Rx
/- The rule layer: bytes and strings; slices of the call's own, written to and cut. -/
namespace Go.Rx
open Go Go.RowKit
set_option linter.unusedVariables false
set_option linter.unusedSimpArgs false
theorem addrB (b o m : Nat) : (⟨b, o, none⟩ : Addr).add m = ⟨b, o + m, none⟩ := by unfold Addr.add; split <;> simp_all
/-- The numbers of a string's bytes. -/
def bytesOf (s : ByteArray) : List Int := s.data.toList.map fun b => (b.toNat : Int)
theorem bytesOf_length (s : ByteArray) : (bytesOf s).length = s.size := by simp [bytesOf]
theorem bytesOf_range (s : ByteArray) : ∀ n ∈ bytesOf s, 0 ≤ n ∧ n ≤ 255 := by
  intro n hn
  obtain ⟨b, _, rfl⟩ := List.mem_map.1 hn
  have := b.toNat_lt
  omega
theorem strOf_bytes (s : ByteArray) : strOf (bytesOf s) = s := by
  unfold strOf bytesOf
  rw [foldl_push_byteCells]
  have he0 : ByteArray.empty.data = #[] := rfl
  rw [he0]
  simp
theorem byteCells_eq (s : ByteArray) : byteCells s = (bytesOf s).flatMap byteEnc := by
  unfold byteCells bytesOf
  induction s.data.toList with
  | nil => rfl
  | cons b l ih =>
    simp only [List.map_cons, List.flatMap_cons, ih]
    rfl
theorem strOf_toList (l : List Int) : (strOf l).data.toList = l.map fun n => UInt8.ofNat n.toNat := by
  unfold strOf
  have key : ∀ (l : List Int) (r : ByteArray), (l.foldl (fun r n => r.push (UInt8.ofNat n.toNat)) r).data.toList = r.data.toList ++ l.map fun n => UInt8.ofNat n.toNat := by
    intro l
    induction l with
    | nil => intro r; simp
    | cons n l ih =>
      intro r
      rw [List.foldl_cons, ih]
      simp [ByteArray.push]
  rw [key]
  have he0 : ByteArray.empty.data = #[] := rfl
  rw [he0]
  simp
theorem bytesOf_str {l : List Int} (h : ∀ n ∈ l, 0 ≤ n ∧ n ≤ 255) : bytesOf (strOf l) = l := by
  unfold bytesOf
  rw [strOf_toList, List.map_map]
  have : l.map ((fun b : UInt8 => (b.toNat : Int)) ∘ fun n : Int => UInt8.ofNat n.toNat) = l.map id := by
    refine List.map_congr_left fun n hn => ?_
    have := h n hn
    simp only [Function.comp, id]
    have h2 : (UInt8.ofNat n.toNat).toNat = n.toNat := by
      rw [UInt8.toNat_ofNat']
      exact Nat.mod_eq_of_lt (by omega)
    rw [h2]
    omega
  rw [this, List.map_id]
theorem strOf_inj {a b : List Int} (ha : ∀ n ∈ a, 0 ≤ n ∧ n ≤ 255) (hb : ∀ n ∈ b, 0 ≤ n ∧ n ≤ 255) : strOf a = strOf b ↔ a = b := by
  constructor
  · intro h
    rw [← bytesOf_str ha, ← bytesOf_str hb, h]
  · intro h; rw [h]
theorem bytesOf_inj {a b : ByteArray} : bytesOf a = bytesOf b ↔ a = b := by
  constructor
  · intro h
    rw [← strOf_bytes a, ← strOf_bytes b, h]
  · intro h; rw [h]
theorem byteOne : ∀ (x : Int), ∀ u ∈ byteEnc x, u.oneCell' = true := by
  intro x u hu
  simp [byteEnc] at hu
  subst hu
  rfl
theorem bytesMap (l : List Int) : l.flatMap byteEnc = l.map (Value.int .u8) := by
  induction l with
  | nil => rfl
  | cons a l ih => rw [List.flatMap_cons, ih]; rfl

section
variable {P : Program} {n : Nat} {ops : Array Oper} {w0 : World} {Cs H : List Chunk} {e : Env} {K : Env → List Chunk → Prop} {rest : List Oper} {t : Nat} {ty : TypeId} {pos : String} {af : Array Edge} {x y : Operand}
/-- '[]byte(s)': a slice of the call's own. -/
theorem Seq.strBytes {src dst el : TypeId} {s : ByteArray} (ht : Nat.blt t n = true := by rfl) (hs : isStr P src = true) (hd : slcOf P dst el 1 = true) (he : intOfT P el .u8 = true) (hx : Look e x (.string s) := by repeat (first | exact Look.here | apply Look.there (hne := rfl) | exact Look.const | apply Look.mix rfl | exact Look.arg0 | apply Look.args | exact Look.func)) (hsz : s.size ≤ 4611686018427387904)
    (k : ∀ b c, Seq P n ops w0 Cs rest (.own el 1 (.slice (some ⟨b, 0, none⟩) s.size c) s.size ((bytesOf s).flatMap byteEnc) :: H) (upd e t (.slice (some ⟨b, 0, none⟩) s.size c)) K) :
    Seq P n ops w0 Cs (⟨some t, .convert src dst x, ty, pos, af, none⟩ :: rest) H e K := by
  refine Seq.f ht (R := fun v H' => ∃ b c, v = .slice (some ⟨b, 0, none⟩) s.size c ∧ H' = .own el 1 (.slice (some ⟨b, 0, none⟩) s.size c) s.size ((bytesOf s).flatMap byteEnc) :: H) ?_ ?_
  · intro w hw d pos af g
    have hr := run_bytes_of_string (P := P) w src dst el s (isStr_und hs) (slcOf_und hd).1 (intOfT_und he)
    refine ⟨.slice (some ⟨w.heap.size, 0, none⟩) s.size (grownCap w s.size 0 el), w.drew.alloc (.cells (bytesRow s (grownCap w s.size 0 el)) el ((bytesRow s (grownCap w s.size 0 el)).size, (bytesRow s (grownCap w s.size 0 el)).size + 1)), .own el 1 (.slice (some ⟨w.heap.size, 0, none⟩) s.size (grownCap w s.size 0 el)) s.size ((bytesOf s).flatMap byteEnc) :: H, .inl (by simp [execOp, hx.eq, hr]), ?_, _, _, rfl, rfl⟩
    have hge := grownCap_ge w s.size 0 el
    have hcm : grownCap w s.size 0 el ≤ maxLen := grownCap_le_maxLen w s.size 0 el (by simp only [maxLen]; omega)
    have hbs : (bytesRow s (grownCap w s.size 0 el)).size = grownCap w s.size 0 el := by
      unfold bytesRow
      rw [Array.size_append, Array.size_map, Array.size_replicate]
      have : s.data.size = s.size := rfl
      omega
    have h2 : Upd w0 (w.drew.alloc (.cells (bytesRow s (grownCap w s.size 0 el)) el ((bytesRow s (grownCap w s.size 0 el)).size, (bytesRow s (grownCap w s.size 0 el)).size + 1))) Cs (.blk w.heap.size _ :: H) := hw.drew.alloc _
    refine (h2.at_ At.z (k := ?_))
    have ho := h2.own.ok _ (List.mem_cons_self ..)
    refine ⟨rfl, rfl, rfl, Nat.le_refl _, fun _ _ _ => rfl, ⟨?_, List.pairwise_singleton _ _⟩, ?_⟩
    · intro c hc
      simp at hc
      subst hc
      refine ⟨?_, .inr ⟨w.heap.size, 0, _, _, _, rfl, ho, hge, hcm, by omega, ?_, ?_⟩⟩
      · rw [← byteCells_eq, byteCells_length, Nat.mul_one]
      · intro j h3 h4 h5
        omega
      · rw [List.drop_zero, Nat.mul_one]
        unfold bytesRow
        rw [Array.toList_append, Array.toList_map, ← byteCells_eq]
        have hl : (s.data.toList.map fun b => Value.int .u8 b.toNat).length = s.size := by simp
        rw [← hl]
        exact List.take_left
    · intro c hc j hj
      simp at hc
      subst hc
      simp [Chunk.fp, Value.ownBlock] at hj
      exact .inl ⟨_, List.mem_singleton.2 rfl, hj.symm⟩
  · rintro v H' ⟨b, c, rfl, rfl⟩
    exact k b c
theorem run_markLit {P : Program} {w : World} {b m : Nat} {el : TypeId} {C : Array Value} (h : w.heap[b]? = some (.cells C el (0, 0))) (hm : C.size = m) : (markStringish ⟨b, 0, none⟩).run P w = .ok () { w with heap := w.heap.setIfInBounds b (.cells C el (m, m + 1)) } := by
  subst hm
  have hsh : w.shape? b = some (el, C.size) := by unfold World.shape?; rw [h]
  have hfr : w.freeze ⟨b, C.size, none⟩ 1 = { w with heap := w.heap.setIfInBounds b (.cells C el (C.size, C.size + 1)) } := by
    unfold World.freeze
    rw [if_neg (by decide)]
    show ({ w with heap := w.heap.modify b _ } : World) = _
    have hb : b < w.heap.size := (Array.getElem?_eq_some_iff.1 h).1
    congr 1
    apply Array.ext
    · simp
    · intro i h1 h2
      simp only [Array.getElem_modify, Array.getElem_setIfInBounds]
      by_cases hi : b = i
      · subst hi
        have : w.heap[b] = .cells C el (0, 0) := (Array.getElem?_eq_some_iff.1 h).2
        simp [this]
      · rw [if_neg hi, Array.getElem_setIfInBounds_ne (by simpa using h1) hi]
  simp [markStringish, hsh, hfr]
/-- A literal of bytes, made '[]byte': the array bears the run-time's mark. -/
theorem Seq.markLit {dst el : TypeId} {b i m : Nat} {cs : List Value} (ht : Nat.blt t n = true := by rfl) (hd : slcOf P dst el 1 = true) (he : intOfT P el .u8 = true) (hx : Look e x (.slice (some ⟨b, 0, none⟩) m m) := by repeat (first | exact Look.here | apply Look.there (hne := rfl) | exact Look.const | apply Look.mix rfl | exact Look.arg0 | apply Look.args | exact Look.func)) (hH : At H i (.box b el cs) := by repeat (first | exact At.z | apply At.s)) (hm : cs.length = m := by rfl) (hsm : m ≤ 4611686018427387904 := by omega)
    (k : Seq P n ops w0 Cs rest (H.set i (.own el 1 (.slice (some ⟨b, 0, none⟩) m m) m cs)) (upd e t (.slice (some ⟨b, 0, none⟩) m m)) K) :
    Seq P n ops w0 Cs (⟨some t, .convert dst dst x, ty, pos, af, none⟩ :: rest) H e K := by
  refine Seq.f ht (R := fun v H' => v = .slice (some ⟨b, 0, none⟩) m m ∧ H' = H.set i (.own el 1 (.slice (some ⟨b, 0, none⟩) m m) m cs)) ?_ ?_
  · intro w hw d pos af g
    have hb : w.heap[b]? = some (.cells cs.toArray el (0, 0)) := hH.ok hw
    have hr := run_markLit (P := P) hb (by simpa using hm)
    have hu := (slcOf_und hd).1
    refine ⟨_, { w with heap := w.heap.setIfInBounds b (.cells cs.toArray el (m, m + 1)) }, _, .inl ?_, ?_, rfl, rfl⟩
    · simp [execOp, hx.eq, convert, run_underlying hu, run_underlying (intOfT_und he), hr]
    · refine Upd.at_ hw hH ?_
      have h3 : Upd w { w with heap := w.heap.setIfInBounds b (.cells cs.toArray el (m, m + 1)) } [.blk b (.cells cs.toArray el (0, 0))] [.blk b (.cells cs.toArray el (m, m + 1))] := Upd.obj hb
      refine ⟨h3.os, h3.tape, h3.output, h3.size, h3.keep, ⟨?_, List.pairwise_singleton _ _⟩, ?_⟩
      · intro c hc
        simp at hc
        subst hc
        have ho := h3.own.ok _ (List.mem_cons_self ..)
        refine ⟨by omega, .inr ⟨b, 0, m, _, _, rfl, ho, Nat.le_refl _, by simp only [maxLen]; omega, by simp [hm], ?_, ?_⟩⟩
        · intro j h4 h5 h6
          simp at h6
          omega
        · simp [← hm]
      · intro c hc j hj
        simp at hc
        subst hc
        simp [Chunk.fp, Value.ownBlock] at hj
        exact .inl ⟨_, List.mem_singleton.2 rfl, hj.symm⟩
  · rintro v H' ⟨rfl, rfl⟩
    exact k
/-- A string's bytes, appended. -/
theorem Src.str {tx : TypeId} (hk : isStr P tx = true) (s : ByteArray) (w : World) : Src P 1 tx (.string s) s.size ((bytesOf s).flatMap byteEnc) w := by
  rw [← byteCells_eq]
  exact Src.ofString w (isStr_und hk) s
/-- Cells of a slice of the call's own are written. -/
theorem OwnR.put {w : World} {el : TypeId} {sz m : Nat} {v : Value} {xs vs : List Value} {o : Nat} (h : OwnR w el sz v m xs) (hfit : o + vs.length ≤ m * sz) (hpos : 0 < vs.length) (h1 : ∀ u ∈ vs, u.oneCell' = true) :
    ∃ g off cap w', v = .slice (some ⟨g, off, none⟩) m cap ∧ (∀ P : Program, (storeCells ⟨g, off + o, none⟩ vs).run P w = .ok () w') ∧ Upd w w' [.own el sz v m xs] [.own el sz v m (xs.take o ++ vs ++ xs.drop (o + vs.length))] := by
  rcases h.2 with ⟨rfl, rfl⟩ | ⟨g, off, cap, cur, fr, rfl, hg, hnc, hcm, hcs, hfr, htake⟩
  · omega
  · have hmul : m * sz ≤ cap * sz := Nat.mul_le_mul_right _ hnc
    have hst := fun P : Program => run_storeCells_fr (P := P) g (off + o) el fr vs 0 cur w hg (by omega) (fun j h2 h3 => hfr j (by omega) (by omega)) h1
    simp only [Nat.add_zero] at hst
    refine ⟨g, off, cap, _, rfl, hst, ?_⟩
    have h4 : (cur.toList.take (off + o)).length = off + o := by
      rw [List.length_take, Array.length_toList (xs := cur)]; omega
    have hlen : (xs.take o ++ vs ++ xs.drop (o + vs.length)).length = m * sz := by
      have := h.1
      simp only [List.length_append, List.length_take, List.length_drop]
      omega
    refine ⟨rfl, rfl, rfl, by simp, fun i hi hne => setRow_other w g i _ (fun h => hne _ (List.mem_singleton.2 rfl) (by simp [Chunk.fp, Value.ownBlock, h])), ⟨?_, List.pairwise_singleton _ _⟩, ?_⟩
    · intro c hc
      simp at hc
      subst hc
      refine ⟨by simpa using hlen, .inr ⟨g, off, cap, _, fr, rfl, setRow_heap w g _ _ _ _ hg, hnc, hcm, ?_, hfr, ?_⟩⟩
      · rw [List.size_toArray, List.length_append, List.length_append, h4, List.length_drop, Array.length_toList (xs := cur)]
        omega
      · show List.take (m * sz) (List.drop off (cur.toList.take (off + o) ++ vs ++ cur.toList.drop (off + o + vs.length))) = _
        rw [List.append_assoc, List.drop_append_of_le_length (by rw [h4]; omega)]
        have e1 : List.drop off (cur.toList.take (off + o)) = xs.take o := by
          rw [List.drop_take, ← htake, List.take_take]
          congr 1
          omega
        rw [e1]
        have e2 : (xs.take o).length = o := by rw [List.length_take, h.1]; omega
        have e3 : List.take (m * sz - (o + vs.length)) (cur.toList.drop (off + o + vs.length)) = xs.drop (o + vs.length) := by
          rw [← htake, List.drop_take, List.drop_drop]
          congr 2
          omega
        have e4 : m * sz = (xs.take o ++ vs).length + (m * sz - (o + vs.length)) := by
          rw [List.length_append, e2]; omega
        rw [← List.append_assoc, e4, List.take_length_add_append, e3, List.append_assoc]
    · intro c hc j hj
      simp at hc
      subst hc
      exact .inl ⟨_, List.mem_singleton.2 rfl, hj⟩
theorem flatSet {α : Type} {enc : α → List Value} {sz : Nat} (hsz : ∀ x, (enc x).length = sz) (xs : List α) (i : Nat) (hi : i < xs.length) (y : α) :
    (xs.flatMap enc).take (i * sz) ++ enc y ++ (xs.flatMap enc).drop (i * sz + (enc y).length) = (xs.set i y).flatMap enc := by
  induction xs generalizing i with
  | nil => simp at hi
  | cons x xs ih =>
    cases i with
    | zero =>
      simp only [Nat.zero_mul, List.take_zero, List.nil_append, Nat.zero_add, List.flatMap_cons, List.set_cons_zero]
      rw [hsz, ← hsz x, List.drop_left]
    | succ i =>
      simp only [List.flatMap_cons, List.set_cons_succ]
      have h1 : (i + 1) * sz = (enc x).length + i * sz := by rw [hsz, Nat.add_mul]; omega
      rw [h1, List.take_length_add_append, Nat.add_assoc, List.append_assoc, List.append_assoc, List.drop_length_add_append, ← List.append_assoc (List.take _ _), ih i (by simpa using hi)]
/-- An element of a slice of the call's own is written. -/
theorem Seq.stOwn {α : Type} [Inhabited α] {enc : α → List Value} {el et : TypeId} {sz i q : Nat} {v u : Value} {xs : List α} (z : α) (hsz : szOf P et sz = true) (hpos : 0 < sz) (hx : Look e x (.pointer (some ((sbase v).add (q * sz)))) := by repeat (first | exact Look.here | apply Look.there (hne := rfl) | exact Look.const | apply Look.mix rfl | exact Look.arg0 | apply Look.args | exact Look.func)) (hy : Look e y u := by repeat (first | exact Look.here | apply Look.there (hne := rfl) | exact Look.const | apply Look.mix rfl | exact Look.arg0 | apply Look.args | exact Look.func))
    (hH : At H i (.own el sz v xs.length (xs.flatMap enc)) := by repeat (first | exact At.z | apply At.s)) (hu : cellsL u = enc z := by rfl) (henc : ∀ x, (enc x).length = sz := by intro _; rfl) (h1 : ∀ x, ∀ u ∈ enc x, u.oneCell' = true) (hq : q < xs.length := by omega)
    (k : Seq P n ops w0 Cs rest (H.set i (.own el sz v (xs.set q z).length ((xs.set q z).flatMap enc))) e K) :
    Seq P n ops w0 Cs (⟨none, .store et x y, ty, pos, af, none⟩ :: rest) H e K := by
  refine Seq.f0 (R := fun _ H' => H' = H.set i (.own el sz v (xs.set q z).length ((xs.set q z).flatMap enc))) ?_ ?_
  · intro w hw d pos af g
    have hok : OwnR w el sz v xs.length (xs.flatMap enc) := hH.ok hw
    have hlt : q * sz + (enc z).length ≤ xs.length * sz := by
      rw [henc]
      have := Nat.mul_le_mul_right sz (show q + 1 ≤ xs.length by omega)
      rw [Nat.add_mul] at this
      omega
    obtain ⟨g', off, cap, w', rfl, hst, hup⟩ := hok.put (vs := enc z) (o := q * sz) hlt (by rw [henc]; exact hpos) (h1 z)
    rw [flatSet henc xs q hq z] at hup
    refine ⟨undef, w', _, .inr ⟨?_, rfl⟩, ?_, rfl⟩
    · have hx' := hx.eq
      have hy' := hy.eq
      simp only [sbase, addrB] at hx'
      have hs2 := hst P
      simp [execOp, hx', hy', Instr.storeAt, Instr.sureAddr, storeVar, cellsL_eq, hu, szOf_run hsz, henc, hs2]
    · have h5 := Upd.at_ hw hH hup
      have e2 : (xs.set q z).length = xs.length := List.length_set
      rw [e2]
      exact h5
  · rintro _ H' rfl
    exact k
/-- A slice of the call's own, cut: what was outside is let go. -/
theorem Upd.reslice {w0 w : World} {Cs H : List Chunk} {α : Type} {enc : α → List Value} {el : TypeId} {sz i lo hi : Nat} {v : Value} {xs : List α} (h : Upd w0 w Cs H) (hH : At H i (.own el sz v xs.length (xs.flatMap enc))) (henc : ∀ x, (enc x).length = sz) (h1 : lo ≤ hi) (h2 : hi ≤ xs.length) :
    Upd w0 w Cs (H.set i (.own el sz (subSl v lo hi sz) ((xs.drop lo).take (hi - lo)).length (((xs.drop lo).take (hi - lo)).flatMap enc))) := by
  refine h.at_ hH ?_
  have hok : OwnR w el sz v xs.length (xs.flatMap enc) := hH.ok h
  have hl : ((xs.drop lo).take (hi - lo)).length = hi - lo := by simp; omega
  have flat : ∀ (ys : List α) (a b : Nat), ((ys.drop a).take b).flatMap enc = ((ys.flatMap enc).drop (a * sz)).take (b * sz) := by
    have fl : ∀ ys : List α, (ys.flatMap enc).length = ys.length * sz := by
      intro ys
      induction ys with
      | nil => simp
      | cons y ys ih => rw [List.flatMap_cons, List.length_append, ih, henc, List.length_cons, Nat.add_mul]; omega
    have tk : ∀ (ys : List α) (b : Nat), (ys.take b).flatMap enc = (ys.flatMap enc).take (b * sz) := by
      intro ys
      induction ys with
      | nil => intro b; simp
      | cons y ys ih =>
        intro b
        cases b with
        | zero => simp
        | succ b =>
          rw [List.take_succ_cons, List.flatMap_cons, List.flatMap_cons, ih]
          have : (b + 1) * sz = (enc y).length + b * sz := by rw [henc, Nat.add_mul]; omega
          rw [this, List.take_length_add_append]
    intro ys a b
    rw [tk]
    congr 1
    induction ys generalizing a with
    | nil => simp
    | cons y ys ih =>
      cases a with
      | zero => simp
      | succ a =>
        rw [List.drop_succ_cons, List.flatMap_cons, ih]
        have : (a + 1) * sz = (enc y).length + a * sz := by rw [henc, Nat.add_mul]; omega
        rw [this, List.drop_length_add_append]
  refine ⟨rfl, rfl, rfl, Nat.le_refl _, fun _ _ _ => rfl, ⟨?_, List.pairwise_singleton _ _⟩, ?_⟩
  · intro c hc
    simp only [List.mem_singleton] at hc
    subst hc
    have hlen : (((xs.drop lo).take (hi - lo)).flatMap enc).length = (hi - lo) * sz := by
      rw [flat, List.length_take, List.length_drop, hok.1]
      have : hi * sz ≤ xs.length * sz := Nat.mul_le_mul_right _ h2
      rw [Nat.sub_mul]
      omega
    show OwnR w el sz _ _ _
    rw [hl]
    refine ⟨hlen, ?_⟩
    rcases hok.2 with ⟨rfl, h0⟩ | ⟨g, off, cap, cur, fr, rfl, hg, hnc, hcm, hcs, hfr, htake⟩
    · have : xs = [] := List.eq_nil_of_length_eq_zero h0
      subst this
      simp at h2
      subst h2
      obtain rfl : lo = 0 := by omega
      exact .inl ⟨rfl, rfl⟩
    · have hms : cap * sz = lo * sz + (cap - lo) * sz := by rw [← Nat.add_mul]; congr 1; omega
      by_cases hcl : cap = lo
      · subst hcl
        refine .inr ⟨g, off, 0, cur, fr, by simp [subSl, show hi - cap = 0 by omega], hg, by omega, by omega, by omega, by intro j h3 h4; omega, ?_⟩
        have e0 : hi - cap = 0 := by omega
        rw [e0]
        simp
      · refine .inr ⟨g, off + lo * sz, cap - lo, cur, fr, ?_, hg, by omega, by omega, by omega, by intro j h3 h4; exact hfr j (by omega) (by omega), ?_⟩
        · simp [subSl, hcl, addrB]
        · rw [flat, ← htake, List.drop_take, List.drop_drop, List.take_take]
          congr 1
          have : hi * sz ≤ xs.length * sz := Nat.mul_le_mul_right _ h2
          rw [Nat.sub_mul]
          omega
  · intro c hc j hj
    simp only [List.mem_singleton] at hc
    subst hc
    rcases hok.2 with ⟨rfl, h0⟩ | ⟨g, off, cap, cur, fr, rfl, _⟩
    · simp [Chunk.fp, subSl, Value.ownBlock] at hj
    · refine .inl ⟨_, List.mem_singleton.2 rfl, ?_⟩
      simp only [Chunk.fp, subSl] at hj ⊢
      split at hj
      · exact hj
      · simp only [Option.map_some, addrB, Value.ownBlock] at hj ⊢
        exact hj
/-- A call that is handed one piece and hands one back. -/
theorem Seq.callAt {f : FuncId} {as : List Operand} {ats : Array TypeId} {c : Chunk} {i : Nat} {R : Value → Chunk → Prop} (ht : Nat.blt t n = true := by rfl) (hs : ∀ w, Upd w0 w Cs H → Own w [c] → Spec P f (as.map (ev e)).toArray w [c] (fun v N => ∃ c', N = [c'] ∧ R v c')) (hH : At H i c := by repeat (first | exact At.z | apply At.s))
    (k : ∀ v c', R v c' → Seq P n ops w0 Cs rest (H.set i c') (upd e t v) K) :
    Seq P n ops w0 Cs (⟨some t, .call ⟨.value (.func f), as.toArray, ats⟩, ty, pos, af, none⟩ :: rest) H e K := by
  refine Seq.call ht (fun w hw => hs w hw ((hw.part ⟨H.eraseIdx i, At.perm hH⟩).own)) (F := H.eraseIdx i) (At.perm hH) ?_
  rintro v H' ⟨c', rfl, hR⟩ a w hf hw
  exact k v c' hR a w hf (hw.perm (At.set hH c'))
theorem Seq.callAt0 {f : FuncId} {as : List Operand} {ats : Array TypeId} {c : Chunk} {i : Nat} {R : Value → Chunk → Prop} (hs : ∀ w, Upd w0 w Cs H → Own w [c] → Spec P f (as.map (ev e)).toArray w [c] (fun v N => ∃ c', N = [c'] ∧ R v c')) (hH : At H i c := by repeat (first | exact At.z | apply At.s))
    (k : ∀ v c', R v c' → Seq P n ops w0 Cs rest (H.set i c') e K) :
    Seq P n ops w0 Cs (⟨none, .call ⟨.value (.func f), as.toArray, ats⟩, ty, pos, af, none⟩ :: rest) H e K := by
  refine Seq.call0 (fun w hw => hs w hw ((hw.part ⟨H.eraseIdx i, At.perm hH⟩).own)) (F := H.eraseIdx i) (At.perm hH) ?_
  rintro v H' ⟨c', rfl, hR⟩ a w hf hw
  exact k v c' hR a w hf (hw.perm (At.set hH c'))
theorem Ev.xor32 {a : Int} (hx : Look e x (.int .u32 a) := by repeat (first | exact Look.here | apply Look.there (hne := rfl) | exact Look.const | apply Look.mix rfl | exact Look.arg0 | apply Look.args | exact Look.func)) {tt : TypeId} : Ev P w0 Cs H e (.unOp .xor tt x) ty (.int .u32 (IntKind.u32.wrap ((BitVec.ofInt IntKind.u32.bits 4294967295 ^^^ BitVec.ofInt IntKind.u32.bits a).toNat))) := by
  intro w _ d pos af g
  replace hx := hx.eq
  have h1 : ((-1 : Int) % 2 ^ IntKind.u32.bits).toNat = 4294967295 % 2 ^ IntKind.u32.bits := by decide
  simp [execOp, hx, Op.unary, Op.intBits, IntKind.signed, IntKind.max, h1]
theorem Ev.addN {m c : Nat} {tx ty' : TypeId} (hx : Look e x (.int .i64 (m : Int)) := by repeat (first | exact Look.here | apply Look.there (hne := rfl) | exact Look.const | apply Look.mix rfl | exact Look.arg0 | apply Look.args | exact Look.func)) (hy : Look e y (.int .i64 (c : Int)) := by repeat (first | exact Look.here | apply Look.there (hne := rfl) | exact Look.const | apply Look.mix rfl | exact Look.arg0 | apply Look.args | exact Look.func)) (h : m + c ≤ 9223372036854775807 := by omega) : Ev P w0 Cs H e (.binOp .add tx x y ty') ty (.int .i64 ((m + c : Nat) : Int)) := by
  have h2 := Ev.add (P := P) (w0 := w0) (Cs := Cs) (H := H) (ty := ty) (tx := tx) (ty' := ty') hx hy (by omega)
  rw [show ((m + c : Nat) : Int) = (m : Int) + (c : Int) by omega]
  exact h2
theorem Ev.mulN {m c : Nat} {tx ty' : TypeId} (hx : Look e x (.int .i64 (c : Int)) := by repeat (first | exact Look.here | apply Look.there (hne := rfl) | exact Look.const | apply Look.mix rfl | exact Look.arg0 | apply Look.args | exact Look.func)) (hy : Look e y (.int .i64 (m : Int)) := by repeat (first | exact Look.here | apply Look.there (hne := rfl) | exact Look.const | apply Look.mix rfl | exact Look.arg0 | apply Look.args | exact Look.func)) (h : c * m ≤ 9223372036854775807 := by omega) : Ev P w0 Cs H e (.binOp .mul tx x y ty') ty (.int .i64 ((c * m : Nat) : Int)) := by
  have h1 : ((c * m : Nat) : Int) = (c : Int) * (m : Int) := by simp
  have h2 := Ev.mul (P := P) (w0 := w0) (Cs := Cs) (H := H) (ty := ty) (tx := tx) (ty' := ty') hx hy (by rw [← h1]; omega)
  rw [h1]
  exact h2
theorem Ev.capSl {A : Option Addr} {m c sz : Nat} {tt el : TypeId} (ht : slcOf P tt el sz = true) (hx : Look e x (.slice A m c) := by repeat (first | exact Look.here | apply Look.there (hne := rfl) | exact Look.const | apply Look.mix rfl | exact Look.arg0 | apply Look.args | exact Look.func)) : Ev P w0 Cs H e (.call ⟨.builtin .cap, #[x], #[tt]⟩) ty (.int .i64 (c : Int)) := by
  intro w _ d pos af g
  replace hx := hx.eq
  simp [execOp, resolve, invoke, builtin, hx, Builtin.cap_, run_underlying (slcOf_und ht).1, goInt]
/-- A slice cut at its end alone, within its room. -/
theorem Ev.cutHi {A : Option Addr} {m c sz : Nat} {h : Nat} {tt el : TypeId} {k : IntKind} (hs : slcOf P tt el sz = true) (hx : Look e x (.slice A m c) := by repeat (first | exact Look.here | apply Look.there (hne := rfl) | exact Look.const | apply Look.mix rfl | exact Look.arg0 | apply Look.args | exact Look.func)) (hy : Look e y (.int k (h : Int)) := by repeat (first | exact Look.here | apply Look.there (hne := rfl) | exact Look.const | apply Look.mix rfl | exact Look.arg0 | apply Look.args | exact Look.func)) (hh : h ≤ c := by omega) : Ev P w0 Cs H e (.slice tt x none (some y) none) ty (.slice A h c) := by
  intro w _ d pos af g
  replace hx := hx.eq
  replace hy := hy.eq
  obtain ⟨hu, hz⟩ := slcOf_und hs
  have g1 : ¬ c < h := by omega
  cases A with
  | none => simp [execOp, hx, hy, Instr.sliceAt, Instr.slice, run_underlying hu, Instr.sliceBounds, Instr.sliceBound, asIntOf, hh, szOf_run hz]
  | some a =>
    have e1 : a.add 0 = a := Addr.add_zero a
    simp [execOp, hx, hy, Instr.sliceAt, Instr.slice, run_underlying hu, Instr.sliceBounds, Instr.sliceBound, asIntOf, hh, szOf_run hz, e1]
/-- 'append(nil, make(n)...)': n at least one: a row of the call's own. -/
theorem Seq.growNil {ts tn el : TypeId} {size bytes m : Nat} {k kn : IntKind} (ht : Nat.blt t n = true := by rfl) (hsl : slcOf P ts el size = true) (he : elOf P el size bytes = true) (hi : intOfT P tn kn = true)
    (hx : Look e x (.slice none 0 0) := by repeat (first | exact Look.here | apply Look.there (hne := rfl) | exact Look.const | apply Look.mix rfl | exact Look.arg0 | apply Look.args | exact Look.func)) (hy : Look e y (.int k (m : Int)) := by repeat (first | exact Look.here | apply Look.there (hne := rfl) | exact Look.const | apply Look.mix rfl | exact Look.arg0 | apply Look.args | exact Look.func)) (h0 : 0 < m := by omega) (h63 : m ≤ 4611686018427387904 := by omega) (hb : m * bytes ≤ 140737488355328 := by omega)
    (kk : ∀ b c zs, Seq P n ops w0 Cs rest (.own el size (.slice (some ⟨b, 0, none⟩) m c) m zs :: H) (upd e t (.slice (some ⟨b, 0, none⟩) m c)) K) :
    Seq P n ops w0 Cs (⟨some t, .call ⟨.builtin .append, #[x, y], #[ts, tn]⟩, ty, pos, af, none⟩ :: rest) H e K := by
  refine Seq.f ht (R := fun v H' => ∃ b c zs, v = .slice (some ⟨b, 0, none⟩) m c ∧ H' = .own el size (.slice (some ⟨b, 0, none⟩) m c) m zs :: H) ?_ ?_
  · intro w hw d pos af g
    obtain ⟨i, z, hi2, rfl, rfl, hpos, hz, hzs⟩ := elOf_parts he
    have hr := Lib.run_append_nil_zeros (P := P) w ts tn ty el i z k kn (slcOf_und hsl).1 (intOfT_und hi) hi2 hz m h0 hpos (by omega) (by omega)
    have hge := grownCap_ge w m 0 el
    have hcm : grownCap w m 0 el ≤ maxLen := grownCap_le_maxLen w m 0 el (by simp only [maxLen]; omega)
    refine ⟨.slice (some ⟨w.heap.size, 0, none⟩) m (grownCap w m 0 el), w.drew.alloc (.cells (Builtin.zeroCells z.cells m ++ Builtin.zeroCells z.cells (grownCap w m 0 el - m)) el), .own el i.size (.slice (some ⟨w.heap.size, 0, none⟩) m (grownCap w m 0 el)) m (Builtin.zeroCells z.cells m).toList :: H, .inl (by simp [execOp, resolve, invoke, builtin, hx.eq, hy.eq, hr]), ?_, _, _, _, rfl, rfl⟩
    have h2 : Upd w0 (w.drew.alloc (.cells (Builtin.zeroCells z.cells m ++ Builtin.zeroCells z.cells (grownCap w m 0 el - m)) el)) Cs (.blk w.heap.size _ :: H) := hw.drew.alloc _
    refine (h2.at_ At.z (k := ?_))
    have ho := h2.own.ok _ (List.mem_cons_self ..)
    refine ⟨rfl, rfl, rfl, Nat.le_refl _, fun _ _ _ => rfl, ⟨?_, List.pairwise_singleton _ _⟩, ?_⟩
    · intro c hc
      simp only [List.mem_singleton] at hc
      subst hc
      have hl : (Builtin.zeroCells z.cells m).toList.length = m * i.size := by rw [Array.length_toList, size_zeroCells, hzs]
      refine ⟨hl, .inr ⟨w.heap.size, 0, _, _, _, rfl, ho, hge, hcm, ?_, by intro j _ _ h; simp at h, ?_⟩⟩
      · rw [Array.size_append, size_zeroCells, size_zeroCells, hzs, ← Nat.add_mul, Nat.zero_add]
        exact Nat.mul_le_mul_right _ (by omega)
      · rw [Array.toList_append, List.drop_zero, ← hl]
        exact List.take_left
    · intro c hc j hj
      simp only [List.mem_singleton] at hc
      subst hc
      simp [Chunk.fp, Value.ownBlock] at hj
      exact .inl ⟨_, List.mem_singleton.2 rfl, hj.symm⟩
  · rintro v H' ⟨b, c, zs, rfl, rfl⟩
    exact kk b c zs
/-- A slice of the call's own, cut to nothing: its room stays. -/
theorem Upd.own0 {w0 w : World} {Cs H : List Chunk} {el : TypeId} {sz i m b o c : Nat} {xs : List Value} (h : Upd w0 w Cs H) (hH : At H i (.own el sz (.slice (some ⟨b, o, none⟩) m c) m xs)) : Upd w0 w Cs (H.set i (.own el sz (.slice (some ⟨b, o, none⟩) 0 c) 0 [])) := by
  refine h.at_ hH ?_
  have hok : OwnR w el sz (.slice (some ⟨b, o, none⟩) m c) m xs := hH.ok h
  refine ⟨rfl, rfl, rfl, Nat.le_refl _, fun _ _ _ => rfl, ⟨?_, List.pairwise_singleton _ _⟩, ?_⟩
  · intro d hd
    simp only [List.mem_singleton] at hd
    subst hd
    rcases hok.2 with ⟨h0, _⟩ | ⟨g, off, cap, cur, fr, he, hg, hnc, hcm, hcs, hfr, htake⟩
    · cases h0
    · cases he
      exact ⟨by simp, .inr ⟨b, o, c, cur, fr, rfl, hg, by omega, hcm, hcs, hfr, by simp⟩⟩
  · intro d hd j hj
    simp only [List.mem_singleton] at hd
    subst hd
    exact .inl ⟨_, List.mem_singleton.2 rfl, hj⟩
end
end Go.Rx
/- The rule layer: slices made. -/
namespace Go.Rx
open Go Go.RowKit
set_option linter.unusedVariables false
set_option linter.unusedSimpArgs false
section
variable {P : Program} {n : Nat} {ops : Array Oper} {w0 : World} {Cs H : List Chunk} {e : Env} {K : Env → List Chunk → Prop} {rest : List Oper} {t : Nat} {ty : TypeId} {pos : String} {af : Array Edge} {x y : Operand}
/-- 'make([]T, 0, c)': a slice of the call's own, of no elements and with room. -/
theorem Seq.mkSl0 {ts el : TypeId} {size bytes c : Nat} {k0 k : IntKind} (ht : Nat.blt t n = true := by rfl) (hsl : slcOf P ts el size = true) (he : elOf P el size bytes = true)
    (hx : Look e x (.int k0 0) := by repeat (first | exact Look.here | apply Look.there (hne := rfl) | exact Look.const | apply Look.mix rfl | exact Look.arg0 | apply Look.args | exact Look.func)) (hy : Look e y (.int k (c : Int)) := by repeat (first | exact Look.here | apply Look.there (hne := rfl) | exact Look.const | apply Look.mix rfl | exact Look.arg0 | apply Look.args | exact Look.func)) (h63 : c ≤ 4611686018427387904 := by omega) (hb : bytes * c ≤ 281474976710656 := by omega)
    (kk : ∀ b, Seq P n ops w0 Cs rest (.own el size (.slice (some ⟨b, 0, none⟩) 0 c) 0 [] :: H) (upd e t (.slice (some ⟨b, 0, none⟩) 0 c)) K) :
    Seq P n ops w0 Cs (⟨some t, .makeSlice ts x y, ty, pos, af, none⟩ :: rest) H e K := by
  refine Seq.f ht (R := fun v H' => ∃ b, v = .slice (some ⟨b, 0, none⟩) 0 c ∧ H' = .own el size (.slice (some ⟨b, 0, none⟩) 0 c) 0 [] :: H) ?_ ?_
  · intro w hw d pos af g
    obtain ⟨i, z, hi2, rfl, rfl, hpos, hz, hzs⟩ := elOf_parts he
    have hr := run_make (P := P) w ts el i z (slcOf_und hsl).1 hi2 hz k0 k 0 c (Int.le_refl _) (by omega) (by
      have h : ((i.bytes * c : Nat) : Int) ≤ 281474976710656 := by omega
      rwa [Int.natCast_mul] at h) (by omega)
    simp only [Int.toNat_zero, Int.toNat_natCast] at hr
    refine ⟨.slice (some ⟨w.heap.size, 0, none⟩) 0 c, w.alloc (.cells (madeCells z.cells (c * i.size)) el), .own el i.size (.slice (some ⟨w.heap.size, 0, none⟩) 0 c) 0 [] :: H, .inl (by simp [execOp, hx.eq, hy.eq, hr]), ?_, _, rfl, rfl⟩
    have h2 := hw.alloc (.cells (madeCells z.cells (c * i.size)) el)
    refine (h2.at_ At.z (k := ?_))
    have ho := h2.own.ok _ (List.mem_cons_self ..)
    refine ⟨rfl, rfl, rfl, Nat.le_refl _, fun _ _ _ => rfl, ⟨?_, List.pairwise_singleton _ _⟩, ?_⟩
    · intro c2 hc
      simp only [List.mem_singleton] at hc
      subst hc
      refine ⟨by simp, .inr ⟨w.heap.size, 0, c, _, _, rfl, ho, Nat.zero_le _, by simp only [maxLen]; omega, ?_, by intro j _ _ h; simp at h, by simp⟩⟩
      rw [size_madeCells]
      omega
    · intro c2 hc j hj
      simp only [List.mem_singleton] at hc
      subst hc
      simp [Chunk.fp, Value.ownBlock] at hj
      exact .inl ⟨_, List.mem_singleton.2 rfl, hj.symm⟩
  · rintro v H' ⟨b, rfl, rfl⟩
    exact kk b
theorem Ev.as {op : Op} {v v' : Value} (hv : v = v') (h : Ev P w0 Cs H e op ty v) : Ev P w0 Cs H e op ty v' := hv ▸ h
theorem Ev.minN {a b : Nat} {ts : List TypeId} (hx : Look e x (.int .i64 (a : Int)) := by repeat (first | exact Look.here | apply Look.there (hne := rfl) | exact Look.const | apply Look.mix rfl | exact Look.arg0 | apply Look.args | exact Look.func)) (hy : Look e y (.int .i64 (b : Int)) := by repeat (first | exact Look.here | apply Look.there (hne := rfl) | exact Look.const | apply Look.mix rfl | exact Look.arg0 | apply Look.args | exact Look.func)) : Ev P w0 Cs H e (.call ⟨.builtin .min, #[x, y], ts.toArray⟩) ty (.int .i64 ((Min.min a b : Nat) : Int)) :=
  Ev.as (by congr 1; split <;> omega) (Ev.min (ts := ts) hx hy)
theorem Ev.maxN {a b : Nat} {ts : List TypeId} (hx : Look e x (.int .i64 (a : Int)) := by repeat (first | exact Look.here | apply Look.there (hne := rfl) | exact Look.const | apply Look.mix rfl | exact Look.arg0 | apply Look.args | exact Look.func)) (hy : Look e y (.int .i64 (b : Int)) := by repeat (first | exact Look.here | apply Look.there (hne := rfl) | exact Look.const | apply Look.mix rfl | exact Look.arg0 | apply Look.args | exact Look.func)) : Ev P w0 Cs H e (.call ⟨.builtin .max, #[x, y], ts.toArray⟩) ty (.int .i64 ((Max.max a b : Nat) : Int)) :=
  Ev.as (by congr 1; split <;> omega) (Ev.max (ts := ts) hx hy)
theorem Ev.subN {a b : Nat} {tx ty' : TypeId} (hx : Look e x (.int .i64 (a : Int)) := by repeat (first | exact Look.here | apply Look.there (hne := rfl) | exact Look.const | apply Look.mix rfl | exact Look.arg0 | apply Look.args | exact Look.func)) (hy : Look e y (.int .i64 (b : Int)) := by repeat (first | exact Look.here | apply Look.there (hne := rfl) | exact Look.const | apply Look.mix rfl | exact Look.arg0 | apply Look.args | exact Look.func)) (h : b ≤ a := by omega) (h2 : a ≤ 9223372036854775807 := by omega) : Ev P w0 Cs H e (.binOp .sub tx x y ty') ty (.int .i64 ((a - b : Nat) : Int)) :=
  Ev.as (by congr 1; omega) (Ev.sub hx hy (by omega))
/-- A slice compared with nil. -/
theorem Ev.eqNilSl {A : Option Addr} {m c : Nat} {tx el ty' : TypeId} (ht : P.underlying tx = some (.slice el)) (hx : Look e x (.slice A m c) := by repeat (first | exact Look.here | apply Look.there (hne := rfl) | exact Look.const | apply Look.mix rfl | exact Look.arg0 | apply Look.args | exact Look.func)) : Ev P w0 Cs H e (.binOp .eql tx x (.const (.slice none 0 0)) ty') ty (.bool A.isNone) := by
  intro w _ d pos af g
  replace hx := hx.eq
  have e1 : ev e (.const (.slice none 0 0)) = .slice none 0 0 := rfl
  have e2 : eqGuard .eql tx x (.const (.slice none 0 0)) (.slice A m c) (.slice none 0 0) = pure () := rfl
  have e3 : (binOp .eql tx (.slice A m c) (.slice none 0 0)).run P w = .ok (.bool A.isNone) w := by
    cases A with
    | none => exact Lib.run_eql_slice_nil_nil w m c ht
    | some a => exact Lib.run_eql_slice_some_nil w a m c ht
  simp [execOp, hx, e1, e2, e3]
/-- A pointer compared with nil. -/
theorem Ev.eqNilP {p : Option Addr} {tx ty' : TypeId} (ht : P.underlying tx = some (.pointer (P.pointee tx))) (hx : Look e x (.pointer p) := by repeat (first | exact Look.here | apply Look.there (hne := rfl) | exact Look.const | apply Look.mix rfl | exact Look.arg0 | apply Look.args | exact Look.func)) : Ev P w0 Cs H e (.binOp .eql tx x (.const (.pointer none)) ty') ty (.bool p.isNone) := by
  intro w _ d pos af g
  replace hx := hx.eq
  have e1 : ev e (.const (.pointer none)) = .pointer none := rfl
  have e2 : eqGuard .eql tx x (.const (.pointer none)) (.pointer p) (.pointer none) = pure () := rfl
  have e3 := run_eql_pointer_nil w tx p ht
  simp [execOp, hx, e1, e2, e3]
theorem Ev.neNilP {p : Option Addr} {tx ty' : TypeId} (ht : P.underlying tx = some (.pointer (P.pointee tx))) (hx : Look e x (.pointer p) := by repeat (first | exact Look.here | apply Look.there (hne := rfl) | exact Look.const | apply Look.mix rfl | exact Look.arg0 | apply Look.args | exact Look.func)) : Ev P w0 Cs H e (.binOp .neq tx x (.const (.pointer none)) ty') ty (.bool (!p.isNone)) := by
  intro w _ d pos af g
  replace hx := hx.eq
  have e1 : ev e (.const (.pointer none)) = .pointer none := rfl
  have e2 : eqGuard .neq tx x (.const (.pointer none)) (.pointer p) (.pointer none) = pure () := rfl
  have e3 := run_neq_pointer_nil w tx p ht
  simp [execOp, hx, e1, e2, e3]
end
/-- A piece let go: a slice of nothing in its place. -/
theorem Upd.toNil {w0 w : World} {Cs H : List Chunk} {i : Nat} {c : Chunk} (h : Upd w0 w Cs H) (hi : At H i c) (e : TypeId) (size : Nat) : Upd w0 w Cs (H.set i (.own e size (.slice none 0 0) 0 [])) := by
  refine h.at_ hi ?_
  refine ⟨rfl, rfl, rfl, Nat.le_refl _, fun _ _ _ => rfl, ⟨?_, List.pairwise_singleton _ _⟩, ?_⟩
  · intro c hc
    simp only [List.mem_singleton] at hc
    subst hc
    exact OwnR.nil w e size
  · intro c hc j hj
    simp only [List.mem_singleton] at hc
    subst hc
    simp [Chunk.fp, Value.ownBlock] at hj
theorem Part.at {c : Chunk} {H' H : List Chunk} {i : Nat} (h : At H i c) (k : Part H' (H.eraseIdx i)) : Part (c :: H') H := by
  obtain ⟨G, hG⟩ := k
  exact ⟨G, (hG.cons c).trans h.perm⟩
section
variable {P : Program} {n : Nat} {ops : Array Oper} {w0 : World} {Cs H : List Chunk} {e : Env} {ty : TypeId} {x y : Operand} {Q : Exit → Env → List Chunk → Prop}
/-- What memory tells. -/
theorem JC.fact {c : Code} {p : Prop} (h : ∀ w, Upd w0 w Cs H → p) (k : p → JC P n w0 Cs c H e Q) : JC P n w0 Cs c H e Q := fun a w hf hw => k (h w hw) a w hf hw
/-- The place of an element of a slice that is known as a value. -/
theorem Ev.iaLit {s el : TypeId} {sz m c i : Nat} {a : Addr} {k : IntKind} (hs : slcOf P s el sz = true) (hx : Look e x (.slice (some a) m c) := by repeat (first | exact Look.here | apply Look.there (hne := rfl) | exact Look.const | apply Look.mix rfl | exact Look.arg0 | apply Look.args | exact Look.func)) (hy : Look e y (.int k (i : Int)) := by repeat (first | exact Look.here | apply Look.there (hne := rfl) | exact Look.const | apply Look.mix rfl | exact Look.arg0 | apply Look.args | exact Look.func)) (hi : i < m := by omega) : Ev P w0 Cs H e (.indexAddr s x y) ty (.pointer (some (a.add (i * sz)))) := by
  intro w hw d pos af g
  replace hx := hx.eq
  replace hy := hy.eq
  obtain ⟨h1, h2⟩ := slcOf_und hs
  have h3 : 0 ≤ (i : Int) ∧ (i : Int) < (m : Int) := by omega
  simp [execOp, hx, hy, Instr.indexAt, asIntOf, run_underlying h1, h3, szOf_run h2]
  intro h
  omega
end
theorem OwnR.some {w : World} {el : TypeId} {sz m c : Nat} {A : Option Addr} {xs : List Value} (h : OwnR w el sz (.slice A m c) m xs) (hm : 0 < m) : ∃ g o, A = Option.some ⟨g, o, none⟩ := by
  rcases h.2 with ⟨h1, h2⟩ | ⟨g, off, cap, cur, fr, h1, _⟩
  · omega
  · cases h1
    exact ⟨g, off, rfl⟩
end Go.Rx
/- The rule layer: copy onto a slice of the call's own; zeros appended behind a part of one; a slice seen with all its room. -/
namespace Go.Rx
open Go Go.RowKit
set_option linter.unusedVariables false
set_option linter.unusedSimpArgs false
/-- A slice of the call's own, with all its room. -/
theorem own_full {w : World} {el : TypeId} {sz m c : Nat} {a : Addr} {xs : List Value} (h : OwnR w el sz (.slice (some a) m c) m xs) : ∃ zs, zs.length = (c - m) * sz ∧ m ≤ c ∧ c ≤ maxLen ∧ a.spot = none ∧ OwnR w el sz (.slice (some a) c c) c (xs ++ zs) := by
  rcases h.2 with ⟨h0, _⟩ | ⟨g, off, cap, cur, fr, he, hg, hnc, hcm, hcs, hfr, htake⟩
  · cases h0
  · cases he
    have hl := h.1
    have hms : c * sz = m * sz + (c - m) * sz := by rw [← Nat.add_mul]; congr 1; omega
    have hcl : (cur.toList.drop off).length = cur.size - off := by rw [List.length_drop, Array.length_toList]
    refine ⟨((cur.toList.drop off).drop (m * sz)).take ((c - m) * sz), ?_, hnc, hcm, rfl, ?_, .inr ⟨g, off, c, cur, fr, rfl, hg, Nat.le_refl _, hcm, hcs, hfr, ?_⟩⟩
    · rw [List.length_take, List.length_drop, hcl]; omega
    · rw [List.length_append, List.length_take, List.length_drop, hcl, hl]; omega
    · rw [← htake, hms, List.take_add]
theorem own_short {w : World} {el : TypeId} {sz m c : Nat} {a : Addr} {xs : List Value} (h : OwnR w el sz (.slice (some a) c c) c xs) (hm : m ≤ c) : OwnR w el sz (.slice (some a) m c) m (xs.take (m * sz)) := by
  rcases h.2 with ⟨h0, _⟩ | ⟨g, off, cap, cur, fr, he, hg, hnc, hcm, hcs, hfr, htake⟩
  · cases h0
  · cases he
    have := Nat.mul_le_mul_right sz hm
    refine ⟨by rw [List.length_take, h.1]; omega, .inr ⟨g, off, c, cur, fr, rfl, hg, hm, hcm, hcs, hfr, ?_⟩⟩
    rw [← htake, List.take_take]
    congr 1
    omega
theorem Upd.same {w : World} {e : TypeId} {size n n' : Nat} {v v' : Value} {xs xs' : List Value} (ho : OwnR w e size v' n' xs') (hv : ∀ k, v'.ownBlock = some k → v.ownBlock = some k) :
    Upd w w [.own e size v n xs] [.own e size v' n' xs'] := by
  refine ⟨rfl, rfl, rfl, Nat.le_refl _, fun _ _ _ => rfl, ⟨?_, List.pairwise_singleton _ _⟩, ?_⟩
  · intro c hc
    simp only [List.mem_singleton] at hc
    subst hc
    exact ho
  · intro c hc i hi
    simp only [List.mem_singleton] at hc
    subst hc
    exact .inl ⟨_, List.mem_singleton.2 rfl, hv i hi⟩
section
variable {P : Program} {n : Nat} {ops : Array Oper} {w0 : World} {Cs H : List Chunk} {e : Env} {K : Env → List Chunk → Prop} {rest : List Oper} {t : Nat} {ty : TypeId} {pos : String} {af : Array Edge} {x y : Operand} {Q : Exit → Env → List Chunk → Prop}
/-- A slice of the call's own is opened: all its room comes to sight. -/
theorem JC.full {c : Code} {el : TypeId} {sz m cp i : Nat} {a : Addr} {xs : List Value} (hH : At H i (.own el sz (.slice (some a) m cp) m xs))
    (k : ∀ zs, zs.length = (cp - m) * sz → m ≤ cp → cp ≤ maxLen → a.spot = none → JC P n w0 Cs c (H.set i (.own el sz (.slice (some a) cp cp) cp (xs ++ zs))) e Q) : JC P n w0 Cs c H e Q := by
  intro a' w hf hw
  have hok : OwnR w el sz _ m xs := hH.ok hw
  obtain ⟨zs, h1, h2, h3, h4, h5⟩ := own_full hok
  exact k zs h1 h2 h3 h4 a' w hf (hw.at_ hH (Upd.same h5 (fun _ h => h)))
theorem Upd.short {w : World} {el : TypeId} {sz m c i : Nat} {a : Addr} {xs : List Value} (hw : Upd w0 w Cs H) (hH : At H i (.own el sz (.slice (some a) c c) c xs)) (hm : m ≤ c) : Upd w0 w Cs (H.set i (.own el sz (.slice (some a) m c) m (xs.take (m * sz)))) :=
  hw.at_ hH (Upd.same (own_short (hH.ok hw) hm) (fun _ h => h))
theorem own_live {el : TypeId} {sz m cp i : Nat} {a : Option Addr} {xs : List Value} (hH : At H i (.own el sz (.slice a m cp) m xs)) {w : World} (hw : Upd w0 w Cs H) : m ≤ cp ∧ cp ≤ maxLen ∧ xs.length = m * sz := by
  have hok : OwnR w el sz _ m xs := hH.ok hw
  rcases hok.2 with ⟨h0, h1⟩ | ⟨g, off, cap, cur, fr, he, hg, hnc, hcm, hcs, hfr, htake⟩
  · cases h0
    exact ⟨by omega, by simp only [maxLen]; omega, hok.1⟩
  · cases he
    exact ⟨hnc, hcm, hok.1⟩
/-- What is known of the lengths of a slice of the call's own. -/
theorem JC.lens {c : Code} {el : TypeId} {sz m cp i : Nat} {a : Option Addr} {xs : List Value} (hH : At H i (.own el sz (.slice a m cp) m xs))
    (k : m ≤ cp → cp ≤ maxLen → xs.length = m * sz → JC P n w0 Cs c H e Q) : JC P n w0 Cs c H e Q := by
  intro a' w hf hw
  obtain ⟨h1, h2, h3⟩ := own_live hH hw
  exact k h1 h2 h3 a' w hf hw
/-- Cells of a slice of the call's own. -/
theorem Cells.own {el : TypeId} {sz m cp i g off o : Nat} {xs cs : List Value} (hH : At H i (.own el sz (.slice (some ⟨g, off, none⟩) m cp) m xs)) (hd : ∀ j u, cs[j]? = some u → xs[o + j]? = some u) : Cells w0 Cs H ⟨g, off + o, none⟩ cs := by
  intro w hw j u hu
  have hok : OwnR w el sz _ m xs := hH.ok hw
  rw [addrB, Nat.add_assoc]
  exact hok.cells (o + j) u (hd j u hu)
/-- 'copy' onto a slice of the call's own, o cells behind its beginning. -/
theorem Seq.copyOwn {dT sT el : TypeId} {sz m cp dl dc sl sc g off o i k : Nat} {a : Addr} {xs cs : List Value} (ht : Nat.blt t n = true := by rfl) (hd : slcOf P dT el sz = true)
    (hx : Look e x (.slice (some ⟨g, off + o, none⟩) dl dc) := by repeat (first | exact Look.here | apply Look.there (hne := rfl) | exact Look.const | apply Look.mix rfl | exact Look.arg0 | apply Look.args | exact Look.func)) (hy : Look e y (.slice (some a) sl sc) := by repeat (first | exact Look.here | apply Look.there (hne := rfl) | exact Look.const | apply Look.mix rfl | exact Look.arg0 | apply Look.args | exact Look.func)) (hH : At H i (.own el sz (.slice (some ⟨g, off, none⟩) m cp) m xs) := by repeat (first | exact At.z | apply At.s))
    (hk : Nat.min sl dl = k) (hcs : Cells w0 Cs H a cs) (hl : cs.length = k * sz) (hpos : 0 < cs.length) (h1 : ∀ u ∈ cs, u.oneCell' = true) (hfit : o + cs.length ≤ m * sz)
    (kk : Seq P n ops w0 Cs rest (H.set i (.own el sz (.slice (some ⟨g, off, none⟩) m cp) m (xs.take o ++ cs ++ xs.drop (o + cs.length)))) (upd e t (goInt k)) K) :
    Seq P n ops w0 Cs (⟨some t, .call ⟨.builtin .copy, #[x, y], #[dT, sT]⟩, ty, pos, af, none⟩ :: rest) H e K := by
  refine Seq.f ht (R := fun v H' => v = goInt k ∧ H' = H.set i (.own el sz (.slice (some ⟨g, off, none⟩) m cp) m (xs.take o ++ cs ++ xs.drop (o + cs.length)))) ?_ ?_
  · intro w hw d pos af g2
    have hok : OwnR w el sz _ m xs := hH.ok hw
    obtain ⟨g', off', cap, w', he, hst, hup⟩ := hok.put (vs := cs) (o := o) hfit hpos h1
    cases he
    obtain ⟨hu, hz⟩ := slcOf_und hd
    have hld := run_loadCells_list (P := P) w a cs (fun j v hj => hcs w hw j v hj)
    have hst2 := hst P
    have hr : (Builtin.copy_ #[dT, sT] ty #[.slice (some ⟨g, off + o, none⟩) dl dc, .slice (some a) sl sc]).run P w = .ok (goInt k) w' := by
      simp [Builtin.copy_, run_underlying hu, Builtin.lenOf, Builtin.firstCells, szOf_run hz, hk, ← hl, hld, hst2]
    exact ⟨goInt k, w', _, .inl (by simp [execOp, resolve, invoke, builtin, hx.eq, hy.eq, hr]), hw.at_ hH hup, rfl, rfl⟩
  · rintro v H' ⟨rfl, rfl⟩
    exact kk
theorem Ev.lenH {A : Option Addr} {m c sz : Nat} {tt el : TypeId} (ht : slcOf P tt el sz = true) (hx : Look e x (.slice A m c) := by repeat (first | exact Look.here | apply Look.there (hne := rfl) | exact Look.const | apply Look.mix rfl | exact Look.arg0 | apply Look.args | exact Look.func)) : Ev P w0 Cs H e (.call ⟨.builtin .len, #[x], #[tt]⟩) ty (.int .i64 (m : Int)) := by
  intro w _ d pos af g
  replace hx := hx.eq
  simp [execOp, resolve, invoke, builtin, hx, Builtin.len_, run_underlying (slcOf_und ht).1, goInt]
/-- A slice cut at its beginning alone. -/
theorem Ev.cutLo {g off m c sz l : Nat} {tt el : TypeId} {k : IntKind} (hs : slcOf P tt el sz = true) (hx : Look e x (.slice (some ⟨g, off, none⟩) m c) := by repeat (first | exact Look.here | apply Look.there (hne := rfl) | exact Look.const | apply Look.mix rfl | exact Look.arg0 | apply Look.args | exact Look.func)) (hy : Look e y (.int k (l : Int)) := by repeat (first | exact Look.here | apply Look.there (hne := rfl) | exact Look.const | apply Look.mix rfl | exact Look.arg0 | apply Look.args | exact Look.func)) (hl : l ≤ m := by omega) (hc : l < c := by omega) :
    Ev P w0 Cs H e (.slice tt x (some y) none none) ty (.slice (some ⟨g, off + l * sz, none⟩) (m - l) (c - l)) := by
  intro w _ d pos af g2
  replace hx := hx.eq
  replace hy := hy.eq
  obtain ⟨hu, hz⟩ := slcOf_und hs
  have g1 : ¬ c = l := by omega
  simp [execOp, hx, hy, Instr.sliceAt, Instr.slice, run_underlying hu, Instr.sliceBounds, Instr.sliceBound, asIntOf, hl, g1, szOf_run hz, addrB]
/-- slices.overlaps of a row that the call made and a slice of the call's own: no. -/
theorem Ev.notOver {f : FuncId} {fn : Func} {tS tR tA el : TypeId} {ats : Array TypeId} {sz i j va la ca g off off2 lb cb m cp : Nat} {cs xs : List Value} (hf : P.funcs[f]? = some fn) (hn : (fn.name == "runtime.NumGoroutine") = false) (hb : fn.body.isNone = true) (hfn : Extern.findNext fn = none)
    (he : Extern.find fn = some (Extern.SlicesOverlaps.overlaps #[tS, tS] #[tR])) (hd : slcOf P tS el sz = true)
    (hx : Look e x (.slice (some ⟨va, 0, none⟩) la ca) := by repeat (first | exact Look.here | apply Look.there (hne := rfl) | exact Look.const | apply Look.mix rfl | exact Look.arg0 | apply Look.args | exact Look.func)) (hy : Look e y (.slice (some ⟨g, off2, none⟩) lb cb) := by repeat (first | exact Look.here | apply Look.there (hne := rfl) | exact Look.const | apply Look.mix rfl | exact Look.arg0 | apply Look.args | exact Look.func))
    (hA : At H i (.box va tA cs)) (hB : At H j (.own el sz (.slice (some ⟨g, off, none⟩) m cp) m xs)) (hij : i ≠ j) (hxs : 0 < xs.length) :
    Ev P w0 Cs H e (.call ⟨.value (.func f), #[x, y], ats⟩) ty (.bool false) := by
  intro w hw d pos af g2
  have hbA : w.heap[va]? = some (.cells cs.toArray tA (0, 0)) := hA.ok hw
  have hok : OwnR w el sz _ m xs := hB.ok hw
  have hne : va ≠ g := by
    intro h
    subst h
    have hs := hw.own.sep
    have hap : ∀ (i j : Nat) (c d : Chunk), i < j → H[i]? = some c → H[j]? = some d → apart c d := fun i j c d hlt hc hd => by
      obtain ⟨h1, rfl⟩ := List.getElem?_eq_some_iff.1 hc
      obtain ⟨h2, rfl⟩ := List.getElem?_eq_some_iff.1 hd
      exact List.pairwise_iff_getElem.1 hs i j h1 h2 hlt
    rcases Nat.lt_or_gt_of_ne hij with h | h
    · exact hap i j _ _ h hA.eq hB.eq va rfl rfl
    · exact hap j i _ _ h hB.eq hA.eq va rfl rfl
  rcases hok.2 with ⟨h0, _⟩ | ⟨g', off', cap, cur, fr, hee, hg, hnc, hcm, hcs, hfr, htake⟩
  · cases h0
  · cases hee
    have hkB : cur.size ≠ 0 := by
      have h1 := hok.1
      have h2 : m * sz ≤ cp * sz := Nat.mul_le_mul_right _ hnc
      omega
    have hr := Lib.run_overlaps_apart (P := P) w tS tR el (slcOf_und hd).1 sz (szOf_run (slcOf_und hd).2) ⟨va, 0, none⟩ ⟨g, off2, none⟩ la ca lb cb hne tA el cs.toArray.size cur.size (by unfold World.shape?; rw [hbA]) (by unfold World.shape?; rw [hg]) hkB (by simp [World.frozen?, hbA]) (by simp [World.frozen?, hbA])
    have hr2 := run_callFunc_extern hf hn hb hfn he #[.slice (some ⟨va, 0, none⟩) la ca, .slice (some ⟨g, off2, none⟩) lb cb] w
    rw [hr] at hr2
    have hfe : ev e (.func f) = .func (.func f) #[] #[] := rfl
    simp [execOp, resolve, Deferred.ofValue, invoke, hx.eq, hy.eq, hfe, hr2, Result.andThen]
/-- A part of a row that the call made, as a slice that is read. -/
theorem RAt.boxPart {α : Type} [Inhabited α] {enc : α → List Value} {el : TypeId} {sz m c i b o : Nat} {cs : List Value} {xs : List α} (hH : At H i (.box b el cs)) (hm : m = xs.length) (hmc : m ≤ c) (hc : ∀ j u, (xs.flatMap enc)[j]? = some u → cs[o + j]? = some u) (hsz : ∀ x, (enc x).length = sz) (hs : xs.length ≤ 4611686018427387904) :
    RAt w0 Cs H enc sz (.slice (some ⟨b, o, none⟩) m c) xs := by
  intro w hw
  subst hm
  refine ⟨[], ⟨some ⟨b, o, none⟩, c, rfl, hmc, by simp⟩, hs, fun x _ => hsz x, ?_⟩
  intro k hk j u hu
  have hj : j < sz := by
    have := (List.getElem?_eq_some_iff.1 hu).1
    rw [hsz] at this
    exact this
  have hget : (xs.flatMap enc)[k * sz + j]? = some u := by
    have key : ∀ (xs : List α) (k : Nat), k < xs.length → (xs.flatMap enc)[k * sz + j]? = (enc xs[k]!)[j]? := by
      intro xs
      induction xs with
      | nil => intro k hk; simp at hk
      | cons x xs ih =>
        intro k hk
        rw [List.flatMap_cons]
        cases k with
        | zero => simp [List.getElem?_append_left, hsz, hj]
        | succ k =>
          have : (k + 1) * sz + j = (enc x).length + (k * sz + j) := by rw [hsz, Nat.add_mul]; omega
          rw [this, List.getElem?_append_right (by omega), Nat.add_sub_cancel_left, ih k (by simpa using hk)]
          simp
    rw [key xs k hk, hu]
  refine ⟨?_, by simp⟩
  show w.cell? ((⟨b, o, none⟩ : Addr).add (k * sz + j)) = some u
  rw [addrB]
  exact (box_cell hw hH (hc _ _ hget)).1
/-- A slice of an array's variable: its first h elements. -/
theorem Ev.cutArr {arr el : TypeId} {len sz b h : Nat} {k : IntKind} (ha : arrOf P arr len el sz = true) (hx : Look e x (.pointer (some ⟨b, 0, none⟩)) := by repeat (first | exact Look.here | apply Look.there (hne := rfl) | exact Look.const | apply Look.mix rfl | exact Look.arg0 | apply Look.args | exact Look.func)) (hy : Look e y (.int k (h : Int)) := by repeat (first | exact Look.here | apply Look.there (hne := rfl) | exact Look.const | apply Look.mix rfl | exact Look.arg0 | apply Look.args | exact Look.func)) (hh : h ≤ len := by omega) :
    Ev P w0 Cs H e (.slice arr x none (some y) none) ty (.slice (some ⟨b, 0, none⟩) h len) := by
  intro w _ d pos af g
  replace hx := hx.eq
  replace hy := hy.eq
  obtain ⟨ha1, ha2⟩ := arrOf_und ha
  have e1 : (⟨b, 0, none⟩ : Addr).add 0 = ⟨b, 0, none⟩ := Addr.add_zero _
  simp [execOp, hx, hy, Instr.sliceAt, run_underlying ha1, Instr.sliceBounds, Instr.sliceBound, asIntOf, hh, szOf_run ha2, e1, Instr.sureAddr]
theorem Ev.cutAll {arr el : TypeId} {len sz b : Nat} (ha : arrOf P arr len el sz = true) (hx : Look e x (.pointer (some ⟨b, 0, none⟩)) := by repeat (first | exact Look.here | apply Look.there (hne := rfl) | exact Look.const | apply Look.mix rfl | exact Look.arg0 | apply Look.args | exact Look.func)) :
    Ev P w0 Cs H e (.slice arr x none none none) ty (.slice (some ⟨b, 0, none⟩) len len) := by
  intro w _ d pos af g
  replace hx := hx.eq
  obtain ⟨ha1, ha2⟩ := arrOf_und ha
  have e1 : (⟨b, 0, none⟩ : Addr).add 0 = ⟨b, 0, none⟩ := Addr.add_zero _
  simp [execOp, hx, Instr.sliceAt, run_underlying ha1, Instr.sliceBounds, Instr.sliceBound, szOf_run ha2, e1, Instr.sureAddr]
/-- A slice seen as an array. -/
theorem Ev.arrP {arr el : TypeId} {len sz m c : Nat} {A : Option Addr} (ha : arrOf P arr len el sz = true) (hx : Look e x (.slice A m c) := by repeat (first | exact Look.here | apply Look.there (hne := rfl) | exact Look.const | apply Look.mix rfl | exact Look.arg0 | apply Look.args | exact Look.func)) (hm : len ≤ m := by omega) : Ev P w0 Cs H e (.sliceToArrayPointer arr x) ty (.pointer A) := by
  intro w _ d pos af g
  replace hx := hx.eq
  obtain ⟨ha1, ha2⟩ := arrOf_und ha
  have h2 : ¬ m < len := by omega
  simp [execOp, hx, Instr.arrayAt, run_underlying ha1, h2]
theorem run_append_grow_zeros {w : World} (tt tn ty el : TypeId) (i : TypeInfo) (z : Value) (k kn : IntKind) (ht : P.underlying tt = some (.slice el)) (htn : P.underlying tn = some (.int kn)) (hi : P.info? el = some i) (hz : i.zero = some z)
    (base : Option Addr) (sLen sCap : Nat) (olds : List Value) (hold : (Builtin.firstCells i.size sLen (.slice base sLen sCap)).run P w.drew = .ok olds.toArray w.drew)
    (m : Nat) (h0 : 0 < m) (hs : 0 < i.size) (hn : sCap < sLen + m) (h63 : sLen + m ≤ 4611686018427387904) (hb : (sLen + m) * i.bytes ≤ 140737488355328) :
    (Builtin.append_ #[tt, tn] ty #[.slice base sLen sCap, .int k m]).run P w =
      .ok (.slice (some ⟨w.heap.size, 0, none⟩) (sLen + m) (grownCap w (sLen + m) sCap el)) (w.drew.alloc (.cells (olds.toArray ++ Builtin.zeroCells z.cells m ++ Builtin.zeroCells z.cells (grownCap w (sLen + m) sCap el - (sLen + m))) el)) := by
  have hw : IntKind.i64.wrap (m : Int) = m := by rw [IntKind.wrap_i64]; omega
  have hn' : ¬ (sLen + m ≤ sCap) := by omega
  have h63' : ¬ (9223372036854775807 < ((sLen : Int) + (m : Int))) := by omega
  have h1 := growslice_fits (need := sLen + m) (old := sCap) (bytes := i.bytes) (by omega) hb
  have h48' : ¬ (281474976710656 < Builtin.nextslicecap (sLen + m) sCap * i.bytes) := by omega
  have h2 : m * i.bytes ≤ (sLen + m) * i.bytes := Nat.mul_le_mul_right _ (by omega)
  have h48i : ¬ (281474976710656 < (m : Int) * (i.bytes : Int)) := by
    rw [← Int.natCast_mul]
    omega
  have hneg : ¬ ((m : Int) < 0) := by omega
  have hns : ¬ (m * i.size = 0) := Nat.mul_ne_zero (by omega) (by omega)
  have hm0 : m ≠ 0 := by omega
  have hs0 : i.size ≠ 0 := by omega
  simp [Builtin.append_, run_underlying ht, run_underlying htn, sizeOf, typeInfo, zeroValue, hi, hz, asInt, asIntOf, hw, hneg, hns, hm0, hs0, hn', h63', h48', h48i, Question.forced, hold, newRow, grownCap]
/-- 'append(s[:q], make(n)...)' where there is no room: a new slice. -/
theorem Seq.growZeros {ts tn el : TypeId} {size bytes m q l cp i : Nat} {a : Addr} {xs : List Value} {k kn : IntKind} (ht : Nat.blt t n = true := by rfl) (hsl : slcOf P ts el size = true) (he : elOf P el size bytes = true) (hi : intOfT P tn kn = true)
    (hx : Look e x (.slice (some a) q cp) := by repeat (first | exact Look.here | apply Look.there (hne := rfl) | exact Look.const | apply Look.mix rfl | exact Look.arg0 | apply Look.args | exact Look.func)) (hy : Look e y (.int k (m : Int)) := by repeat (first | exact Look.here | apply Look.there (hne := rfl) | exact Look.const | apply Look.mix rfl | exact Look.arg0 | apply Look.args | exact Look.func)) (hH : At H i (.own el size (.slice (some a) l cp) l xs) := by repeat (first | exact At.z | apply At.s)) (hq : q ≤ l := by omega) (h0 : 0 < m := by omega) (hn : cp < q + m := by omega) (h63 : q + m ≤ 4611686018427387904 := by omega) (hb : (q + m) * bytes ≤ 140737488355328 := by omega)
    (kk : ∀ b c zs, zs.length = m * size → Seq P n ops w0 Cs rest (.own el size (.slice (some ⟨b, 0, none⟩) (q + m) c) (q + m) (xs.take (q * size) ++ zs) :: H) (upd e t (.slice (some ⟨b, 0, none⟩) (q + m) c)) K) :
    Seq P n ops w0 Cs (⟨some t, .call ⟨.builtin .append, #[x, y], #[ts, tn]⟩, ty, pos, af, none⟩ :: rest) H e K := by
  refine Seq.f ht (R := fun v H' => ∃ b c zs, zs.length = m * size ∧ v = .slice (some ⟨b, 0, none⟩) (q + m) c ∧ H' = .own el size (.slice (some ⟨b, 0, none⟩) (q + m) c) (q + m) (xs.take (q * size) ++ zs) :: H) ?_ ?_
  · intro w hw d pos af g
    obtain ⟨j, z, hi2, rfl, rfl, hpos, hz, hzs⟩ := elOf_parts he
    have hok : OwnR w el j.size _ l xs := hH.ok hw
    have hlen := hok.1
    have hql : q * j.size ≤ l * j.size := Nat.mul_le_mul_right _ hq
    have htl : (xs.take (q * j.size)).length = q * j.size := by rw [List.length_take, hlen]; omega
    have hold : (Builtin.firstCells j.size q (.slice (some a) q cp)).run P w.drew = .ok (xs.take (q * j.size)).toArray w.drew := by
      refine run_firstCells_some w.drew j.size q a q cp _ htl ?_
      intro p u hu
      rcases hok.2 with ⟨h0, _⟩ | ⟨g', off', cap, cur, fr, hee, hg, _⟩
      · cases h0
      · cases hee
        rw [addrB]
        refine hok.cells p u ?_
        rw [List.getElem?_take] at hu
        split at hu
        · exact hu
        · cases hu
    have hr := run_append_grow_zeros (P := P) (w := w) ts tn ty el j z k kn (slcOf_und hsl).1 (intOfT_und hi) hi2 hz (some a) q cp _ hold m h0 hpos hn h63 hb
    have hge := grownCap_ge w (q + m) cp el
    have hcm : grownCap w (q + m) cp el ≤ maxLen := grownCap_le_maxLen w (q + m) cp el (by simp only [maxLen]; omega)
    refine ⟨.slice (some ⟨w.heap.size, 0, none⟩) (q + m) (grownCap w (q + m) cp el), w.drew.alloc (.cells ((xs.take (q * j.size)).toArray ++ Builtin.zeroCells z.cells m ++ Builtin.zeroCells z.cells (grownCap w (q + m) cp el - (q + m))) el), .own el j.size (.slice (some ⟨w.heap.size, 0, none⟩) (q + m) (grownCap w (q + m) cp el)) (q + m) (xs.take (q * j.size) ++ (Builtin.zeroCells z.cells m).toList) :: H, .inl (by simp [execOp, resolve, invoke, builtin, hx.eq, hy.eq, hr]), ?_, _, _, _, by rw [Array.length_toList, size_zeroCells, hzs], rfl, rfl⟩
    have h2 : Upd w0 (w.drew.alloc (.cells ((xs.take (q * j.size)).toArray ++ Builtin.zeroCells z.cells m ++ Builtin.zeroCells z.cells (grownCap w (q + m) cp el - (q + m))) el)) Cs (.blk w.heap.size _ :: H) := hw.drew.alloc _
    refine (h2.at_ At.z (k := ?_))
    have ho := h2.own.ok _ (List.mem_cons_self ..)
    refine ⟨rfl, rfl, rfl, Nat.le_refl _, fun _ _ _ => rfl, ⟨?_, List.pairwise_singleton _ _⟩, ?_⟩
    · intro c hc
      simp only [List.mem_singleton] at hc
      subst hc
      have hl : (xs.take (q * j.size) ++ (Builtin.zeroCells z.cells m).toList).length = (q + m) * j.size := by rw [List.length_append, htl, Array.length_toList, size_zeroCells, hzs, Nat.add_mul]
      refine ⟨hl, .inr ⟨w.heap.size, 0, _, _, _, rfl, ho, hge, hcm, ?_, by intro j _ _ h; simp at h, ?_⟩⟩
      · rw [Array.size_append, Array.size_append, size_zeroCells, size_zeroCells, hzs, List.size_toArray, htl, ← Nat.add_mul, ← Nat.add_mul, Nat.zero_add]
        exact Nat.mul_le_mul_right _ (by omega)
      · rw [Array.toList_append, Array.toList_append, List.drop_zero, ← hl]
        exact List.take_left
    · intro c hc j hj
      simp only [List.mem_singleton] at hc
      subst hc
      simp [Chunk.fp, Value.ownBlock] at hj
      exact .inl ⟨_, List.mem_singleton.2 rfl, hj.symm⟩
  · rintro v H' ⟨b, c, zs, hz, rfl, rfl⟩
    exact kk b c zs hz
end
end Go.Rx
/- The rule layer: words of 64 bits as natural numbers; sums with a carry, differences with a borrow. -/
namespace Go.Rx
open Go Go.RowKit
set_option linter.unusedVariables false
set_option linter.unusedSimpArgs false
section
variable {P : Program} {w0 : World} {Cs H : List Chunk} {e : Env} {ty tx ty' : TypeId} {x y z : Operand} {a b c : Nat}
theorem Ev.addNU (hx : Look e x (.int .u64 (a : Int)) := by repeat (first | exact Look.here | apply Look.there (hne := rfl) | exact Look.const | apply Look.mix rfl | exact Look.arg0 | apply Look.args | exact Look.func)) (hy : Look e y (.int .u64 (b : Int)) := by repeat (first | exact Look.here | apply Look.there (hne := rfl) | exact Look.const | apply Look.mix rfl | exact Look.arg0 | apply Look.args | exact Look.func)) (h : a + b < 18446744073709551616 := by omega) : Ev P w0 Cs H e (.binOp .add tx x y ty') ty (.int .u64 ((a + b : Nat) : Int)) :=
  Ev.as (by congr 1) (Ev.addU' hx hy (by omega))
theorem Ev.addNM (hx : Look e x (.int .u64 (a : Int)) := by repeat (first | exact Look.here | apply Look.there (hne := rfl) | exact Look.const | apply Look.mix rfl | exact Look.arg0 | apply Look.args | exact Look.func)) (hy : Look e y (.int .u64 (b : Int)) := by repeat (first | exact Look.here | apply Look.there (hne := rfl) | exact Look.const | apply Look.mix rfl | exact Look.arg0 | apply Look.args | exact Look.func)) : Ev P w0 Cs H e (.binOp .add tx x y ty') ty (.int .u64 (((a + b) % 18446744073709551616 : Nat) : Int)) :=
  Ev.as (by congr 1) (Ev.addU hx hy)
theorem Ev.subNU (hx : Look e x (.int .u64 (a : Int)) := by repeat (first | exact Look.here | apply Look.there (hne := rfl) | exact Look.const | apply Look.mix rfl | exact Look.arg0 | apply Look.args | exact Look.func)) (hy : Look e y (.int .u64 (b : Int)) := by repeat (first | exact Look.here | apply Look.there (hne := rfl) | exact Look.const | apply Look.mix rfl | exact Look.arg0 | apply Look.args | exact Look.func)) (h : b ≤ a ∧ a < 18446744073709551616 := by omega) : Ev P w0 Cs H e (.binOp .sub tx x y ty') ty (.int .u64 ((a - b : Nat) : Int)) :=
  Ev.as (by congr 1 <;> omega) (Ev.subU' hx hy (by omega))
theorem Ev.mulNU (hx : Look e x (.int .u64 (a : Int)) := by repeat (first | exact Look.here | apply Look.there (hne := rfl) | exact Look.const | apply Look.mix rfl | exact Look.arg0 | apply Look.args | exact Look.func)) (hy : Look e y (.int .u64 (b : Int)) := by repeat (first | exact Look.here | apply Look.there (hne := rfl) | exact Look.const | apply Look.mix rfl | exact Look.arg0 | apply Look.args | exact Look.func)) (h : a * b < 18446744073709551616 := by omega) : Ev P w0 Cs H e (.binOp .mul tx x y ty') ty (.int .u64 ((a * b : Nat) : Int)) :=
  Ev.as (by congr 1 <;> rw [wrap_u64 _ (by rw [← Int.natCast_mul]; omega), Int.natCast_mul]) (Ev.mulW (k := .u64) hx hy)
theorem Ev.mulNM (hx : Look e x (.int .u64 (a : Int)) := by repeat (first | exact Look.here | apply Look.there (hne := rfl) | exact Look.const | apply Look.mix rfl | exact Look.arg0 | apply Look.args | exact Look.func)) (hy : Look e y (.int .u64 (b : Int)) := by repeat (first | exact Look.here | apply Look.there (hne := rfl) | exact Look.const | apply Look.mix rfl | exact Look.arg0 | apply Look.args | exact Look.func)) : Ev P w0 Cs H e (.binOp .mul tx x y ty') ty (.int .u64 ((a * b % 18446744073709551616 : Nat) : Int)) :=
  Ev.as (by congr 1) (Ev.mulW (k := .u64) hx hy)
theorem Ev.quoNU (hx : Look e x (.int .u64 (a : Int)) := by repeat (first | exact Look.here | apply Look.there (hne := rfl) | exact Look.const | apply Look.mix rfl | exact Look.arg0 | apply Look.args | exact Look.func)) (hy : Look e y (.int .u64 (b : Int)) := by repeat (first | exact Look.here | apply Look.there (hne := rfl) | exact Look.const | apply Look.mix rfl | exact Look.arg0 | apply Look.args | exact Look.func)) (ha : a < 18446744073709551616 := by omega) (hb : 0 < b := by omega) : Ev P w0 Cs H e (.binOp .quo tx x y ty') ty (.int .u64 ((a / b : Nat) : Int)) :=
  Ev.as (by congr 1) (Ev.quoU hx hy (by omega) (by omega))
theorem Ev.remNU (hx : Look e x (.int .u64 (a : Int)) := by repeat (first | exact Look.here | apply Look.there (hne := rfl) | exact Look.const | apply Look.mix rfl | exact Look.arg0 | apply Look.args | exact Look.func)) (hy : Look e y (.int .u64 (b : Int)) := by repeat (first | exact Look.here | apply Look.there (hne := rfl) | exact Look.const | apply Look.mix rfl | exact Look.arg0 | apply Look.args | exact Look.func)) (hb : 0 < b := by omega) : Ev P w0 Cs H e (.binOp .rem tx x y ty') ty (.int .u64 ((a % b : Nat) : Int)) :=
  Ev.as (by congr 1) (Ev.rem hx hy (by omega) (by omega))
theorem bits_low {n m : Nat} (k : Nat) (hn : n < 18446744073709551616) (hm : m = 2 ^ k - 1) (hk : m < 18446744073709551616) : (BitVec.ofInt IntKind.u64.bits (n : Int) &&& BitVec.ofInt IntKind.u64.bits (m : Int)).toNat = n % 2 ^ k := by
  have e1 : ∀ q : Nat, q < 18446744073709551616 → (BitVec.ofInt IntKind.u64.bits (q : Int)).toNat = q := fun q hq => by
    rw [BitVec.toNat_ofInt]
    have : ((2 ^ IntKind.u64.bits : Nat) : Int) = 18446744073709551616 := rfl
    rw [this, Int.emod_eq_of_lt (by omega) (by omega)]
    omega
  rw [BitVec.toNat_and, e1 n hn, e1 m hk, hm, Nat.and_two_pow_sub_one_eq_mod]
/-- 'x & (2^k - 1)' -/
theorem Ev.lowNU {m : Nat} (k r : Nat) (hx : Look e x (.int .u64 (a : Int)) := by repeat (first | exact Look.here | apply Look.there (hne := rfl) | exact Look.const | apply Look.mix rfl | exact Look.arg0 | apply Look.args | exact Look.func)) (hy : Look e y (.int .u64 (m : Int)) := by repeat (first | exact Look.here | apply Look.there (hne := rfl) | exact Look.const | apply Look.mix rfl | exact Look.arg0 | apply Look.args | exact Look.func)) (hm : m = 2 ^ k - 1 := by rfl) (hr : 2 ^ k = r := by rfl) (ha : a < 18446744073709551616 := by omega) (hmk : m < 18446744073709551616 := by decide) :
    Ev P w0 Cs H e (.binOp .and tx x y ty') ty (.int .u64 ((a % r : Nat) : Int)) := by
  refine Ev.as ?_ (Ev.bits (k := .u64) (· &&& ·) (.inl ⟨rfl, rfl⟩) hx hy)
  subst hr
  have h := bits_low k ha hm hmk
  have h2 : a % 2 ^ k ≤ a := Nat.mod_le _ _
  show Value.int .u64 (IntKind.u64.wrap (((BitVec.ofInt IntKind.u64.bits (a : Int) &&& BitVec.ofInt IntKind.u64.bits (m : Int)).toNat : Nat) : Int)) = _
  rw [h, wrap_u64 _ (by omega)]
/-- 'x >> k' -/
theorem Ev.shrNU {k' : IntKind} {s : Int} (r : Nat) (hx : Look e x (.int .u64 (a : Int)) := by repeat (first | exact Look.here | apply Look.there (hne := rfl) | exact Look.const | apply Look.mix rfl | exact Look.arg0 | apply Look.args | exact Look.func)) (hy : Look e y (.int k' s) := by repeat (first | exact Look.here | apply Look.there (hne := rfl) | exact Look.const | apply Look.mix rfl | exact Look.arg0 | apply Look.args | exact Look.func)) (hs : 0 ≤ s := by omega) (hr : ((2 : Int) ^ (Min.min s.toNat IntKind.u64.bits)) = (r : Int) := by rfl) :
    Ev P w0 Cs H e (.binOp .shr tx x y ty') ty (.int .u64 ((a / r : Nat) : Int)) := by
  refine Ev.as ?_ (Ev.shrW hx hy hs)
  rw [hr]
  congr 1
/-- A call of what the run-time itself brings. -/
theorem Ev.ext3 {f : FuncId} {fn : Func} {en : Array Value → Sem Value} {ats : Array TypeId} {vx vy vz v : Value} (hf : P.funcs[f]? = some fn) (hn : (fn.name == "runtime.NumGoroutine") = false) (hb : fn.body.isNone = true) (hfn : Extern.findNext fn = none) (he : Extern.find fn = some en)
    (hx : Look e x vx := by repeat (first | exact Look.here | apply Look.there (hne := rfl) | exact Look.const | apply Look.mix rfl | exact Look.arg0 | apply Look.args | exact Look.func)) (hy : Look e y vy := by repeat (first | exact Look.here | apply Look.there (hne := rfl) | exact Look.const | apply Look.mix rfl | exact Look.arg0 | apply Look.args | exact Look.func)) (hz : Look e z vz := by repeat (first | exact Look.here | apply Look.there (hne := rfl) | exact Look.const | apply Look.mix rfl | exact Look.arg0 | apply Look.args | exact Look.func)) (hr : ∀ w : World, (en #[vx, vy, vz]).run P w = .ok v w) : Ev P w0 Cs H e (.call ⟨.value (.func f), #[x, y, z], ats⟩) ty v := by
  intro w hw d pos af g2
  have hr2 := run_callFunc_extern hf hn hb hfn he #[vx, vy, vz] w
  rw [hr w] at hr2
  have hfe : ev e (.func f) = .func (.func f) #[] #[] := rfl
  simp [execOp, resolve, Deferred.ofValue, invoke, hx.eq, hy.eq, hz.eq, hfe, hr2, Result.andThen]
def sub64E : Array Value → Sem Value := fun args => do
  let (x, y, b) ← Extern.MathBitsCarry.three "Sub64" args
  pure (Extern.MathBitsCarry.pair ((x + Extern.MathBitsCarry.m64 - y - b) % Extern.MathBitsCarry.m64) (if x < y + b then 1 else 0))
theorem run_sub64E (x y b : Nat) (hb : b ≤ 1) (w : World) :
    (sub64E #[.int .u64 x, .int .u64 y, .int .u64 b]).run P w = .ok (.tuple #[.int .u64 (((x + 18446744073709551616 - y - b) % 18446744073709551616 : Nat) : Int), .int .u64 ((if x < y + b then 1 else 0 : Nat) : Int)]) w := by
  have : b = 0 ∨ b = 1 := by omega
  rcases this with rfl | rfl <;> rfl
theorem run_add64N (x y c : Nat) (hc : c ≤ 1) (w : World) :
    (add64Entry #[.int .u64 x, .int .u64 y, .int .u64 c]).run P w = .ok (.tuple #[.int .u64 (((x + y + c) % 18446744073709551616 : Nat) : Int), .int .u64 (((x + y + c) / 18446744073709551616 : Nat) : Int)]) w := by
  rw [run_add64 x y c (by omega) (by omega) (by omega) (by omega)]
  congr 4
theorem Ev.add64 {f : FuncId} {fn : Func} {ats : Array TypeId} (hf : P.funcs[f]? = some fn) (hn : (fn.name == "runtime.NumGoroutine") = false) (hb : fn.body.isNone = true) (hfn : Extern.findNext fn = none) (he : Extern.find fn = some add64Entry)
    (hx : Look e x (.int .u64 (a : Int)) := by repeat (first | exact Look.here | apply Look.there (hne := rfl) | exact Look.const | apply Look.mix rfl | exact Look.arg0 | apply Look.args | exact Look.func)) (hy : Look e y (.int .u64 (b : Int)) := by repeat (first | exact Look.here | apply Look.there (hne := rfl) | exact Look.const | apply Look.mix rfl | exact Look.arg0 | apply Look.args | exact Look.func)) (hz : Look e z (.int .u64 (c : Int)) := by repeat (first | exact Look.here | apply Look.there (hne := rfl) | exact Look.const | apply Look.mix rfl | exact Look.arg0 | apply Look.args | exact Look.func)) (hc : c ≤ 1 := by omega) :
    Ev P w0 Cs H e (.call ⟨.value (.func f), #[x, y, z], ats⟩) ty (.tuple #[.int .u64 (((a + b + c) % 18446744073709551616 : Nat) : Int), .int .u64 (((a + b + c) / 18446744073709551616 : Nat) : Int)]) :=
  Ev.ext3 hf hn hb hfn he hx hy hz (run_add64N a b c hc)
theorem Ev.sub64 {f : FuncId} {fn : Func} {ats : Array TypeId} (hf : P.funcs[f]? = some fn) (hn : (fn.name == "runtime.NumGoroutine") = false) (hb : fn.body.isNone = true) (hfn : Extern.findNext fn = none) (he : Extern.find fn = some sub64E)
    (hx : Look e x (.int .u64 (a : Int)) := by repeat (first | exact Look.here | apply Look.there (hne := rfl) | exact Look.const | apply Look.mix rfl | exact Look.arg0 | apply Look.args | exact Look.func)) (hy : Look e y (.int .u64 (b : Int)) := by repeat (first | exact Look.here | apply Look.there (hne := rfl) | exact Look.const | apply Look.mix rfl | exact Look.arg0 | apply Look.args | exact Look.func)) (hz : Look e z (.int .u64 (c : Int)) := by repeat (first | exact Look.here | apply Look.there (hne := rfl) | exact Look.const | apply Look.mix rfl | exact Look.arg0 | apply Look.args | exact Look.func)) (hc : c ≤ 1 := by omega) :
    Ev P w0 Cs H e (.call ⟨.value (.func f), #[x, y, z], ats⟩) ty (.tuple #[.int .u64 (((a + 18446744073709551616 - b - c) % 18446744073709551616 : Nat) : Int), .int .u64 ((if a < b + c then 1 else 0 : Nat) : Int)]) :=
  Ev.ext3 hf hn hb hfn he hx hy hz (run_sub64E a b c hc)
theorem Ev.constN {k : IntKind} {v : Int} (h : ((a : Nat) : Int) = v := by rfl) : Ev P w0 Cs H e (.assign (.const (.int k v))) ty (.int k (a : Int)) :=
  Ev.as (by rw [h]) Ev.assign
end
end Go.Rx
/- The whole rule layer. -/
/- From the reading of a call's arguments: rows whose elements hold slices; a claim's first world with its shape. -/
namespace Go.Rx
open Go Go.RowKit
set_option linter.unusedVariables false
section
variable {H : Type} {enc : TypeId × Value → H} {P : Program} {w : World} {base : Nat} {held : Bool}
theorem weights_in_all {e : TypeId} {n : Nat} : ∀ {ds : List (DataW H)} {d : DataW H}, d ∈ ds → n ∈ d.weights P e → n ∈ DataW.weightsAll P e ds
  | x :: r, d, hd, hn => by
    simp only [DataW.weightsAll, List.mem_append]
    rcases List.mem_cons.1 hd with rfl | hd
    · exact .inl hn
    · exact .inr (weights_in_all hd hn)
/-- A slice of whatever elements: of each row what its reading tells. -/
theorem open_rowsG {α : Type} [Inhabited α] {en : α → List Value} {k : Nat} {t e : TypeId} {fuel : Nat} {cs : List Value} {x : DataW H × List MemPlace} (Q : α → Prop) (ht : P.underlying t = some (.slice e)) (hk : P.cellsOf e = k) (hpos : 0 < P.bytesOf e)
    (hQ : ∀ fuel row y, DataW.trod enc P w base (fun _ => true) held fuel e row = some y → Light P e y.1 → row.length = k → ∃ x : α, en x = row ∧ Q x)
    (h : DataW.trod enc P w base (fun _ => true) held fuel t cs = some x) (hl : Light P t x.1) :
    ∃ (A : Option Addr) (c : Nat) (xs : List α), cs = [.slice A xs.length c] ∧ RSl en k w [] (.slice A xs.length c) xs ∧ xs.length * P.bytesOf e ≤ reachBytes ∧ ∀ x ∈ xs, Q x := by
  rcases DataW.trod_slice ht h with ⟨rfl, rfl⟩ | ⟨a, len, cap, elems, rest, n, rfl, rfl, rfl, hb, hlc, hcm, hel, hget, hsp, _⟩
  · exact ⟨none, 0, [], rfl, ⟨⟨none, 0, rfl, Nat.le_refl _, fun _ => rfl⟩, by simp, by simp, fun i hi => by simp at hi⟩, by simp, by simp⟩
  · have hw := hl ((elems.map (·.1)).length + (rest.map (·.1)).length |> (· * P.bytesOf e)) (by simp [DataW.weights, ht])
    have hrow : ∀ i, i < len → ∃ x : α, (en x).length = k ∧ Q x ∧ ∀ j u, (en x)[j]? = some u → w.cell? ((a.add (i * k)).add j) = some u := by
      intro i hi
      have h1 := hget i hi
      have h2 : i < elems.length := by omega
      rw [List.getElem?_eq_getElem h2, Option.bind_eq_some_iff] at h1
      obtain ⟨row, hr1, hr2⟩ := h1
      rw [hk] at hr1
      have hli : Light P e elems[i].1 := fun m hm => hl m (by
        simp only [DataW.weights, ht]
        refine List.mem_cons_of_mem _ (List.mem_append.2 (.inl ?_))
        exact weights_in_all (List.mem_map.2 ⟨elems[i], List.getElem_mem _, rfl⟩) hm)
      obtain ⟨g1, g2⟩ := cells?_get hr1
      obtain ⟨x, rfl, hx⟩ := hQ n row _ hr2 hli g1
      exact ⟨x, g1, hx, g2⟩
    classical
    let f : Nat → α := fun i => if h : i < len then Classical.choose (hrow i h) else default
    have hf : ∀ i (h : i < len), f i = Classical.choose (hrow i h) := by
      intro i h
      simp only [f, dif_pos h]
    refine ⟨some a, cap, (List.range len).map f, by simp, ⟨⟨some a, cap, by simp, by simpa using hlc, by simp⟩, ?_, ?_, ?_⟩, ?_, ?_⟩
    · simp at hw ⊢
      have : len * 1 ≤ reachBytes := Nat.le_trans (Nat.mul_le_mul (by omega : len ≤ elems.length + rest.length) hpos) hw
      simp only [reachBytes] at this
      omega
    · intro x hx
      obtain ⟨i, hi, rfl⟩ := List.mem_map.1 hx
      have hi' : i < len := by simpa using hi
      rw [hf i hi']
      exact (Classical.choose_spec (hrow i hi')).1
    · intro i hi j u hu
      have hi' : i < len := by simpa using hi
      have e1 : ((List.range len).map f)[i]! = f i := by
        rw [getElem!_pos _ i hi]
        simp
      rw [e1, hf i hi'] at hu
      have := (Classical.choose_spec (hrow i hi')).2.2 j u hu
      rw [Addr.add_add] at this
      exact ⟨by simpa [sbase] using this, by simp⟩
    · simp at hw ⊢
      refine Nat.le_trans (Nat.mul_le_mul_right _ ?_) hw
      omega
    · intro x hx
      obtain ⟨i, hi, rfl⟩ := List.mem_map.1 hx
      have hi' : i < len := by simpa using hi
      rw [hf i hi']
      exact (Classical.choose_spec (hrow i hi')).2.1
theorem sum_range_le {β : Type} (f : Nat → Nat) (g : β → Nat) : ∀ (l : List β) (k : Nat), (∀ i (h : i < l.length), f (k + i) ≤ g l[i]) → ((List.range' k l.length).map f).sum ≤ (l.map g).sum
  | [], k, h => by simp
  | b :: l, k, h => by
    have h0 := h 0 (by simp)
    have ih := sum_range_le f g l (k + 1) (fun i hi => by
      have := h (i + 1) (by simpa using hi)
      simpa [Nat.add_assoc, Nat.add_comm 1] using this)
    simp only [List.length_cons, List.range'_succ, List.map_cons, List.sum_cons, Nat.add_zero, List.getElem_cons_zero] at h0 ih ⊢
    omega
/-- The like, with what the elements weigh together. -/
theorem open_rowsW {α : Type} [Inhabited α] {en : α → List Value} {k : Nat} {t e : TypeId} {fuel : Nat} {cs : List Value} {x : DataW H × List MemPlace} (Q : α → Prop) (μ : α → Nat) (β : DataW H → Nat) (ht : P.underlying t = some (.slice e)) (hk : P.cellsOf e = k) (hpos : 0 < P.bytesOf e)
    (hQ : ∀ fuel row y, DataW.trod enc P w base (fun _ => true) held fuel e row = some y → Light P e y.1 → row.length = k → ∃ x : α, en x = row ∧ Q x ∧ μ x ≤ β y.1)
    (h : DataW.trod enc P w base (fun _ => true) held fuel t cs = some x) (hl : Light P t x.1) :
    ∃ (A : Option Addr) (c : Nat) (xs : List α), cs = [.slice A xs.length c] ∧ RSl en k w [] (.slice A xs.length c) xs ∧ xs.length * P.bytesOf e ≤ reachBytes ∧ (∀ x ∈ xs, Q x) ∧ ∀ N, (∀ elems spare, x.1 = .slice elems spare → (elems.map β).sum ≤ N) → (xs.map μ).sum ≤ N := by
  rcases DataW.trod_slice ht h with ⟨rfl, rfl⟩ | ⟨a, len, cap, elems, rest, n, rfl, rfl, rfl, hb, hlc, hcm, hel, hget, hsp, _⟩
  · exact ⟨none, 0, [], rfl, ⟨⟨none, 0, rfl, Nat.le_refl _, fun _ => rfl⟩, by simp, by simp, fun i hi => by simp at hi⟩, by simp, by simp, fun N _ => by simp⟩
  · have hw := hl ((elems.map (·.1)).length + (rest.map (·.1)).length |> (· * P.bytesOf e)) (by simp [DataW.weights, ht])
    have hrow : ∀ i (hi : i < elems.length), ∃ x : α, (en x).length = k ∧ Q x ∧ μ x ≤ β (elems[i]).1 ∧ ∀ j u, (en x)[j]? = some u → w.cell? ((a.add (i * k)).add j) = some u := by
      intro i h2
      have h1 := hget i (by omega)
      rw [List.getElem?_eq_getElem h2, Option.bind_eq_some_iff] at h1
      obtain ⟨row, hr1, hr2⟩ := h1
      rw [hk] at hr1
      have hli : Light P e elems[i].1 := fun m hm => hl m (by
        simp only [DataW.weights, ht]
        refine List.mem_cons_of_mem _ (List.mem_append.2 (.inl ?_))
        exact weights_in_all (List.mem_map.2 ⟨elems[i], List.getElem_mem _, rfl⟩) hm)
      obtain ⟨g1, g2⟩ := cells?_get hr1
      obtain ⟨x, rfl, hx, hm⟩ := hQ n row _ hr2 hli g1
      exact ⟨x, g1, hx, hm, g2⟩
    classical
    let f : Nat → α := fun i => if h : i < elems.length then Classical.choose (hrow i h) else default
    have hf : ∀ i (h : i < elems.length), f i = Classical.choose (hrow i h) := by
      intro i h
      simp only [f, dif_pos h]
    refine ⟨some a, cap, (List.range len).map f, by simp, ⟨⟨some a, cap, by simp, by simpa using hlc, by simp⟩, ?_, ?_, ?_⟩, ?_, ?_, ?_⟩
    · simp at hw ⊢
      have : len * 1 ≤ reachBytes := Nat.le_trans (Nat.mul_le_mul (by omega : len ≤ elems.length + rest.length) hpos) hw
      simp only [reachBytes] at this
      omega
    · intro x hx
      obtain ⟨i, hi, rfl⟩ := List.mem_map.1 hx
      have hi' : i < elems.length := by have : i < len := by simpa using hi
                                        omega
      rw [hf i hi']
      exact (Classical.choose_spec (hrow i hi')).1
    · intro i hi j u hu
      have hi' : i < elems.length := by have : i < len := by simpa using hi
                                        omega
      have e1 : ((List.range len).map f)[i]! = f i := by
        rw [getElem!_pos _ i hi]
        simp
      rw [e1, hf i hi'] at hu
      have := (Classical.choose_spec (hrow i hi')).2.2.2 j u hu
      rw [Addr.add_add] at this
      exact ⟨by simpa [sbase] using this, by simp⟩
    · simp at hw ⊢
      refine Nat.le_trans (Nat.mul_le_mul_right _ ?_) hw
      omega
    · intro x hx
      obtain ⟨i, hi, rfl⟩ := List.mem_map.1 hx
      have hi' : i < elems.length := by have : i < len := by simpa using hi
                                        omega
      rw [hf i hi']
      exact (Classical.choose_spec (hrow i hi')).2.1
    · intro N hN
      refine Nat.le_trans ?_ (hN _ _ rfl)
      have h3 := sum_range_le (fun i => μ (f i)) (fun d : DataW H => β d) (elems.map (·.1)) 0 (fun i hi => by
        have hi2 : i < elems.length := by simpa using hi
        simp only [Nat.zero_add, List.getElem_map]
        rw [hf i hi2]
        exact (Classical.choose_spec (hrow i hi2)).2.2.1)
      have hl2 : elems.length = len := by omega
      rw [List.length_map, hl2, ← List.range_eq_range'] at h3
      rw [List.map_map]
      exact h3
/-- A field that is a number. -/
theorem trod_num {t : TypeId} {k : IntKind} {fuel : Nat} {cs : List Value} {x : DataW H × List MemPlace} (hs : sorts P 20 t = some [.int k]) (h : DataW.trod enc P w base (fun _ => true) held fuel t cs = some x) : ∃ n, cs = [.int k n] ∧ (Lit.int k n).wf = true := by
  obtain ⟨g1, g2⟩ := trod_plain 20 t _ hs fuel cs x h
  obtain ⟨c0, r0, rfl, h0, g1⟩ := areSorts_cons g1
  obtain rfl := areSorts_nil g1
  obtain ⟨n, rfl⟩ := isSort_int h0
  exact ⟨n, rfl, by simpa [wfV] using g2⟩
end
/-- A row of bytes within a reading. -/
theorem open_bytesAt {H : Type} {enc : TypeId × Value → H} {P : Program} {w : World} {base : Nat} {held : Bool} {t e : TypeId} {fuel : Nat} {cs : List Value} {x : DataW H × List MemPlace} (ht : P.underlying t = some (.slice e)) (hs : sorts P 20 e = some [.int .u8]) (hb : P.bytesOf e = 1)
    (h : DataW.trod enc P w base (fun _ => true) held fuel t cs = some x) (hl : Light P t x.1) :
    ∃ (A : Option Addr) (c : Nat) (l : List Int), cs = [.slice A l.length c] ∧ RSl byteEnc 1 w [] (.slice A l.length c) l ∧ (∀ n ∈ l, 0 ≤ n ∧ n ≤ 255) ∧ l.length ≤ reachBytes := by
  obtain ⟨A, c, xs, h1, r1, l1, w1⟩ := open_rows (en := byteEnc) (dec := fun cs => numAt cs 0) ht hs (by rw [hb]; decide) (fun cs h => by
    obtain ⟨c0, r0, rfl, h0, h⟩ := areSorts_cons h
    obtain rfl := areSorts_nil h
    obtain ⟨n0, rfl⟩ := isSort_int h0
    rfl) h hl
  rw [hb, Nat.mul_one] at l1
  refine ⟨A, c, xs, h1, r1, ?_, l1⟩
  intro x hx
  have := (w1 x hx).2
  simp only [byteEnc, List.all_cons, List.all_nil, Bool.and_true] at this
  have h2 : (Lit.int .u8 x).wf = true := this
  unfold Lit.wf at h2
  rw [Bool.and_eq_true] at h2
  exact ⟨of_decide_eq_true h2.1, of_decide_eq_true h2.2⟩
/-- The wrap of a row with laid variables, the world's shape kept. -/
theorem returnsInHanded_of_and_shaped {H : Type} {enc : TypeId × Value → H} {a : Assume} {C : Checked} {os : Os} {f : FuncId} {fn : Func} {s : ChangeSpec} {conds : List PathCond} {apart fresh handsOn again : Bool} {X : World → Array Value → Prop}
    (hX : ∀ (w w' : World) (args : Array Value), w.heap = w'.heap → X w args → X w' args)
    (own : ownKnob C.prog.godebug = none) (started : os.Started) (noInit : C.prog.inits.idxOf? f = none) (hfn : C.prog.funcs[f]? = some fn)
    (witness : ∃ (w : World) (tape : Tape) (i : Input), w.os = os ∧ (w.forCall tape i).Shaped C.prog ∧ i.vars = [] ∧ Input.okWide C.prog (w.forCall tape i) .any w.heap.size f i ∧
      ((s.pre enc C.prog fn conds apart (w.forCall tape i).memory i.args ∧ X (w.forCall tape i).memory i.args) ∧ sizedMet enc C.prog fn (OpenSpec.ofChange s) apart (w.forCall tape i).memory i.args) ∧ a.holds C.prog (lone (Frame.enter C.prog f i.args .normal) [] (w.forCall tape i)))
    (contract : ∀ (W : World) (base : Nat) (args : Array Value) (ds gs : List (DataW H)) (before : List MemPlace),
      (∀ (j : Nat) t v, fn.params[j]? = some t → args[j]? = some v → Value.okWide C.prog W .any base t v) →
      DataW.Whole enc C.prog fn.params.toList s.vars apart W args.toList ds gs before →
      conds.all (PathCond.test C.prog ⟨fn.params.toList, ds, s.plain.varTypes C.prog, gs⟩) = true →
      (DataW.weightsEach C.prog (fn.params.toList ++ s.plain.varTypes C.prog) (ds ++ gs)).all (· ≤ reachBytes) = true → X W args → W.ShapedOpen C.prog →
      a.holds C.prog (lone (Frame.enter C.prog f args .normal) [] W) →
      Calls C.prog f args W fun e W' => ∃ v, e = .returned v ∧ s.post enc C.prog fn apart fresh handsOn again W args v W') :
    ReturnsInHanded a C os f .any (fun w args => (s.pre enc C.prog fn conds apart w args ∧ X w args) ∧ sizedMet enc C.prog fn (OpenSpec.ofChange s) apart w args) (s.post enc C.prog fn apart fresh handsOn again) := by
  refine returnsInHanded_of_calls own started noInit witness ?_
  intro w tape i _ hsh _ hok hpre hholds
  obtain ⟨_, _, _, fn', hfn', _, _, _, _, hval⟩ := hok
  have e : fn' = fn := Option.some.inj (hfn'.symm.trans hfn)
  subst e
  obtain ⟨⟨⟨ds, gs, before, hw, hc⟩, hx⟩, hz⟩ := hpre
  have hw' := DataW.Whole.of_heap (w' := w.forCall tape i) (by rfl) hw
  refine (contract (w.forCall tape i) w.heap.size i.args ds gs before hval hw' hc (hz.weights hw) (hX _ _ _ (by rfl) hx) hsh hholds).mono fun e W' ⟨v, he, hp⟩ => ?_
  subst he
  exact ChangeSpec.post_blind hp
end Go.Rx
