/- Parts of the proof. -/
import Derived.Test.YtonoamdonmbkpaaDoorPart1
import Derived.Room.Shelf.Join48
set_option linter.unusedVariables false
set_option linter.unusedSimpArgs false
/- Operators' lines read by the document. -/
namespace Go.Rx
open Go Go.RowKit Go.Lib Go.Proofs.YtonoamdonmbkpaaDoor
set_option linter.unusedVariables false
set_option linter.unusedSimpArgs false
def kstr : Fk → ByteArray
  | .name => ⟨#[110, 97, 109, 101]⟩
  | .price => ⟨#[112, 114, 105, 99, 101]⟩
  | .member => ⟨#[109, 101, 109, 98, 101, 114]⟩
  | .count => ⟨#[99, 111, 117, 110, 116]⟩
  | .lcount => ⟨#[99, 111, 117, 110, 116]⟩
  | .ord => ⟨#[111, 114, 100, 101, 114]⟩
  | .opn => ⟨#[111, 112, 101, 110]⟩
  | .pos => ⟨#[112, 111, 115, 105, 116, 105, 111, 110]⟩
  | .worth => ⟨#[119, 111, 114, 116, 104]⟩
abbrev limS : ByteArray := ⟨#[108, 105, 109, 105, 116, 115]⟩
def strEnc (s : ByteArray) : List Value := [.string s]
set_option maxHeartbeats 4000000 in
set_option maxRecDepth 100000 in
theorem refShape {w : World} {s : ByteArray} : Spec Go.Proofs.Tryd.prog 13 #[.string s] w []
    (fun u H' => (∃ ks A c, shapeF s = some ks ∧ u = .tuple #[.slice A ks.length c, .bool true] ∧ H' = [.own 9 1 (.slice A ks.length c) ks.length ((ks.map kstr).flatMap strEnc)]) ∨ (shapeF s = none ∧ u = .tuple #[.slice none 0 0, .bool false])) := by
  refine Spec.enter (fn := Go.Proofs.Tryd.f13) (n := 28) [.string s] Go.Proofs.Tryd.func13 (by kernel_rfl) rfl Go.Proofs.Tryd.ntmps13 Go.Proofs.Tryd.results13 rfl (Own.nil _) ?_
  refine JC.rs ?_
  refine Seq.p rfl Ev.assign ?_
  refine Seq.p rfl Ev.assign ?_
  refine Seq.nil ?_
  refine JC.seq ?_
  refine JC.rs ?_
  refine Seq.p rfl Ev.move ?_
  refine Seq.nil ?_
  refine JC.blk ?_
  refine JC.seq ?_
  refine JC.rs ?_
  refine Seq.p rfl Ev.eqStr ?_
  refine Seq.p rfl Ev.assign ?_
  refine Seq.nil ?_
  first | refine JC.c (ht := fun c5 => ?_) (hf := fun c5 => ?_) | refine JC.cb (ht := fun c5 => ?_) (hf := fun c5 => ?_)
  · -- then_t5
    refine JC.skip ?_
    first | refine JC.cTh c5 (h := ?_) | refine JC.cbTh c5 (h := ?_)
    refine JC.rs ?_
    refine Seq.buildSlN [.string (kstr .name)] (hsl := sl.sl_string) (hz := z.string) (k := ?_); intro b11
    refine Seq.re (fun w h => Upd.boxOwn h (n := 1) (size := 1) At.z rfl (by omega)) ?_
    refine Seq.p rfl Ev.assign ?_
    refine Seq.p rfl Ev.assign ?_
    refine Seq.nil ?_
    refine JC.ret ?_
    show retQ _ _ _ _ _ _ _ _
    refine ret2 (hp := Part.refl _) (hpost := ?_)
    exact .inl ⟨[.name], _, _, by unfold shapeF; simp [*], rfl, rfl⟩
  · -- else_t5
    refine JC.rs ?_
    refine Seq.p rfl Ev.eqStr ?_
    refine Seq.p rfl Ev.assign ?_
    refine Seq.nil ?_
    first | refine JC.c (ht := fun c5 => ?_) (hf := fun c5 => ?_) | refine JC.cb (ht := fun c5 => ?_) (hf := fun c5 => ?_)
    · -- then_t5
      refine JC.skip ?_
      first | refine JC.cTh c5 (h := ?_) | refine JC.cbTh c5 (h := ?_)
      refine JC.rs ?_
      refine Seq.buildSlN [.string (kstr .name)] (hsl := sl.sl_string) (hz := z.string) (k := ?_); intro b11
      refine Seq.re (fun w h => Upd.boxOwn h (n := 1) (size := 1) At.z rfl (by omega)) ?_
      refine Seq.p rfl Ev.assign ?_
      refine Seq.p rfl Ev.assign ?_
      refine Seq.nil ?_
      refine JC.ret ?_
      show retQ _ _ _ _ _ _ _ _
      refine ret2 (hp := Part.refl _) (hpost := ?_)
      exact .inl ⟨[.name], _, _, by unfold shapeF; simp [*], rfl, rfl⟩
    · -- else_t5
      refine JC.rs ?_
      refine Seq.p rfl Ev.eqStr ?_
      refine Seq.p rfl Ev.assign ?_
      refine Seq.nil ?_
      first | refine JC.c (ht := fun c5 => ?_) (hf := fun c5 => ?_) | refine JC.cb (ht := fun c5 => ?_) (hf := fun c5 => ?_)
      · -- then_t5
        refine JC.skip ?_
        first | refine JC.cTh c5 (h := ?_) | refine JC.cbTh c5 (h := ?_)
        refine JC.rs ?_
        refine Seq.buildSlN [.string (kstr .name)] (hsl := sl.sl_string) (hz := z.string) (k := ?_); intro b11
        refine Seq.re (fun w h => Upd.boxOwn h (n := 1) (size := 1) At.z rfl (by omega)) ?_
        refine Seq.p rfl Ev.assign ?_
        refine Seq.p rfl Ev.assign ?_
        refine Seq.nil ?_
        refine JC.ret ?_
        show retQ _ _ _ _ _ _ _ _
        refine ret2 (hp := Part.refl _) (hpost := ?_)
        exact .inl ⟨[.name], _, _, by unfold shapeF; simp [*], rfl, rfl⟩
      · -- else_t5
        refine JC.rs ?_
        refine Seq.p rfl Ev.eqStr ?_
        refine Seq.p rfl Ev.assign ?_
        refine Seq.nil ?_
        first | refine JC.c (ht := fun c5 => ?_) (hf := fun c5 => ?_) | refine JC.cb (ht := fun c5 => ?_) (hf := fun c5 => ?_)
        · -- then_t5
          refine JC.skip ?_
          first | refine JC.cTh c5 (h := ?_) | refine JC.cbTh c5 (h := ?_)
          refine JC.rs ?_
          refine Seq.buildSlN [.string (kstr .name)] (hsl := sl.sl_string) (hz := z.string) (k := ?_); intro b11
          refine Seq.re (fun w h => Upd.boxOwn h (n := 1) (size := 1) At.z rfl (by omega)) ?_
          refine Seq.p rfl Ev.assign ?_
          refine Seq.p rfl Ev.assign ?_
          refine Seq.nil ?_
          refine JC.ret ?_
          show retQ _ _ _ _ _ _ _ _
          refine ret2 (hp := Part.refl _) (hpost := ?_)
          exact .inl ⟨[.name], _, _, by unfold shapeF; simp [*], rfl, rfl⟩
        · -- else_t5
          refine JC.reg ?_
          refine Seq.p rfl Ev.eqStr ?_
          refine Seq.p rfl Ev.assign ?_
          refine Seq.nil ?_
          first | refine JC.c (ht := fun c5 => ?_) (hf := fun c5 => ?_) | refine JC.cb (ht := fun c5 => ?_) (hf := fun c5 => ?_)
          · -- then_t5
            refine JC.rs ?_
            refine Seq.buildSlN [.string (kstr .name)] (hsl := sl.sl_string) (hz := z.string) (k := ?_); intro b11
            refine Seq.re (fun w h => Upd.boxOwn h (n := 1) (size := 1) At.z rfl (by omega)) ?_
            refine Seq.p rfl Ev.assign ?_
            refine Seq.p rfl Ev.assign ?_
            refine Seq.nil ?_
            refine JC.ret ?_
            show retQ _ _ _ _ _ _ _ _
            refine ret2 (hp := Part.refl _) (hpost := ?_)
            exact .inl ⟨[.name], _, _, by unfold shapeF; simp [*], rfl, rfl⟩
          · -- else_t5
            refine JC.rs ?_
            refine Seq.p rfl Ev.eqStr ?_
            refine Seq.p rfl Ev.assign ?_
            refine Seq.nil ?_
            first | refine JC.c (ht := fun c12 => ?_) (hf := fun c12 => ?_) | refine JC.cb (ht := fun c12 => ?_) (hf := fun c12 => ?_)
            · -- then_t12
              refine JC.rs ?_
              refine Seq.buildSlN [.string (kstr .name), .string (kstr .price)] (hsl := sl.sl_string) (hz := z.string) (k := ?_); intro b14
              refine Seq.re (fun w h => Upd.boxOwn h (n := 2) (size := 1) At.z rfl (by omega)) ?_
              refine Seq.p rfl Ev.assign ?_
              refine Seq.p rfl Ev.assign ?_
              refine Seq.nil ?_
              refine JC.ret ?_
              show retQ _ _ _ _ _ _ _ _
              refine ret2 (hp := Part.refl _) (hpost := ?_)
              exact .inl ⟨[.name, .price], _, _, by unfold shapeF; simp [*], rfl, rfl⟩
            · -- else_t12
              refine JC.seq ?_
              refine JC.rs ?_
              refine Seq.p rfl Ev.eqStr ?_
              refine Seq.p rfl Ev.assign ?_
              refine Seq.nil ?_
              first | refine JC.c (ht := fun c15 => ?_) (hf := fun c15 => ?_) | refine JC.cb (ht := fun c15 => ?_) (hf := fun c15 => ?_)
              · -- then_t15
                refine JC.skip ?_
                first | refine JC.cTh c15 (h := ?_) | refine JC.cbTh c15 (h := ?_)
                refine JC.rs ?_
                refine Seq.buildSlN [.string (kstr .member)] (hsl := sl.sl_string) (hz := z.string) (k := ?_); intro b18
                refine Seq.re (fun w h => Upd.boxOwn h (n := 1) (size := 1) At.z rfl (by omega)) ?_
                refine Seq.p rfl Ev.assign ?_
                refine Seq.p rfl Ev.assign ?_
                refine Seq.nil ?_
                refine JC.ret ?_
                show retQ _ _ _ _ _ _ _ _
                refine ret2 (hp := Part.refl _) (hpost := ?_)
                exact .inl ⟨[.member], _, _, by unfold shapeF; simp [*], rfl, rfl⟩
              · -- else_t15
                refine JC.reg ?_
                refine Seq.p rfl Ev.eqStr ?_
                refine Seq.p rfl Ev.assign ?_
                refine Seq.nil ?_
                first | refine JC.c (ht := fun c15 => ?_) (hf := fun c15 => ?_) | refine JC.cb (ht := fun c15 => ?_) (hf := fun c15 => ?_)
                · -- then_t15
                  refine JC.rs ?_
                  refine Seq.buildSlN [.string (kstr .member)] (hsl := sl.sl_string) (hz := z.string) (k := ?_); intro b18
                  refine Seq.re (fun w h => Upd.boxOwn h (n := 1) (size := 1) At.z rfl (by omega)) ?_
                  refine Seq.p rfl Ev.assign ?_
                  refine Seq.p rfl Ev.assign ?_
                  refine Seq.nil ?_
                  refine JC.ret ?_
                  show retQ _ _ _ _ _ _ _ _
                  refine ret2 (hp := Part.refl _) (hpost := ?_)
                  exact .inl ⟨[.member], _, _, by unfold shapeF; simp [*], rfl, rfl⟩
                · -- else_t15
                  refine JC.rs ?_
                  refine Seq.p rfl Ev.eqStr ?_
                  refine Seq.p rfl Ev.assign ?_
                  refine Seq.nil ?_
                  first | refine JC.c (ht := fun c19 => ?_) (hf := fun c19 => ?_) | refine JC.cb (ht := fun c19 => ?_) (hf := fun c19 => ?_)
                  · -- then_t19
                    refine JC.rs ?_
                    refine Seq.buildSlS [.string (kstr .member), .string (kstr .ord), .string (kstr .opn), .string (kstr .lcount), .string (kstr .pos), .string (kstr .worth)] (hsl := sl.sl_string) (hz := z.string) (k := ?_); intro b21
                    refine Seq.re (fun w h => Upd.boxOwn h (n := 6) (size := 1) At.z rfl (by omega)) ?_
                    refine Seq.p rfl Ev.assign ?_
                    refine Seq.p rfl Ev.assign ?_
                    refine Seq.nil ?_
                    refine JC.ret ?_
                    show retQ _ _ _ _ _ _ _ _
                    refine ret2 (hp := Part.refl _) (hpost := ?_)
                    exact .inl ⟨limK, _, _, by unfold shapeF; simp [*], rfl, rfl⟩
                  · -- else_t19
                    refine JC.rs ?_
                    refine Seq.p rfl Ev.eqStr ?_
                    refine Seq.p rfl Ev.assign ?_
                    refine Seq.nil ?_
                    first | refine JC.c (ht := fun c22 => ?_) (hf := fun c22 => ?_) | refine JC.cb (ht := fun c22 => ?_) (hf := fun c22 => ?_)
                    · -- then_t22
                      refine JC.rs ?_
                      refine Seq.buildSlN [.string (kstr .name), .string (kstr .count)] (hsl := sl.sl_string) (hz := z.string) (k := ?_); intro b24
                      refine Seq.re (fun w h => Upd.boxOwn h (n := 2) (size := 1) At.z rfl (by omega)) ?_
                      refine Seq.p rfl Ev.assign ?_
                      refine Seq.p rfl Ev.assign ?_
                      refine Seq.nil ?_
                      refine JC.ret ?_
                      show retQ _ _ _ _ _ _ _ _
                      refine ret2 (hp := Part.refl _) (hpost := ?_)
                      exact .inl ⟨[.name, .count], _, _, by unfold shapeF; simp [*], rfl, rfl⟩
                    · -- else_t22
                      refine JC.seq ?_
                      refine JC.rs ?_
                      refine Seq.p rfl Ev.eqStr ?_
                      refine Seq.p rfl Ev.assign ?_
                      refine Seq.nil ?_
                      first | refine JC.c (ht := fun c25 => ?_) (hf := fun c25 => ?_) | refine JC.cb (ht := fun c25 => ?_) (hf := fun c25 => ?_)
                      · -- then_t25
                        refine JC.skip ?_
                        first | refine JC.cTh c25 (h := ?_) | refine JC.cbTh c25 (h := ?_)
                        refine JC.rs ?_
                        refine Seq.p rfl Ev.assign ?_
                        refine Seq.p rfl Ev.assign ?_
                        refine Seq.nil ?_
                        refine JC.re (fun w h => Upd.nilOwn h 9 1) ?_
                        refine JC.ret ?_
                        show retQ _ _ _ _ _ _ _ _
                        refine ret2 (hp := Part.refl _) (hpost := ?_)
                        exact .inl ⟨[], none, 0, by unfold shapeF; simp [*], rfl, rfl⟩
                      · -- else_t25
                        refine JC.reg ?_
                        refine Seq.p rfl Ev.eqStr ?_
                        refine Seq.p rfl Ev.assign ?_
                        refine Seq.nil ?_
                        first | refine JC.c (ht := fun c25 => ?_) (hf := fun c25 => ?_) | refine JC.cb (ht := fun c25 => ?_) (hf := fun c25 => ?_)
                        · -- then_t25
                          refine JC.rs ?_
                          refine Seq.p rfl Ev.assign ?_
                          refine Seq.p rfl Ev.assign ?_
                          refine Seq.nil ?_
                          refine JC.re (fun w h => Upd.nilOwn h 9 1) ?_
                          refine JC.ret ?_
                          show retQ _ _ _ _ _ _ _ _
                          refine ret2 (hp := Part.refl _) (hpost := ?_)
                          exact .inl ⟨[], none, 0, by unfold shapeF; simp [*], rfl, rfl⟩
                        · -- else_t25
                          refine JC.skip ?_
                          refine JC.rs ?_
                          refine Seq.p rfl Ev.assign ?_
                          refine Seq.p rfl Ev.assign ?_
                          refine Seq.nil ?_
                          refine JC.ret ?_
                          show retQ _ _ _ _ _ _ _ _
                          refine ret2 (hp := Part.refl _) (hpost := ?_)
                          exact .inr ⟨by unfold shapeF; simp [*], rfl⟩
theorem refShapeSome {w : World} {s : ByteArray} {ks : List Fk} {K : List ByteArray} (hs : shapeF s = some ks) (hK : K = ks.map kstr) : Spec Go.Proofs.Tryd.prog 13 #[.string s] w [] (fun u H' => ∃ A c, u = .tuple #[.slice A K.length c, .bool true] ∧ H' = [.own 9 1 (.slice A K.length c) K.length (K.flatMap strEnc)]) :=
  refShape.mono (by
    rintro u H' (⟨ks2, A, c, h1, h2, h3⟩ | ⟨h1, _⟩)
    · rw [hs] at h1
      cases h1
      subst hK
      exact ⟨A, c, by rw [List.length_map]; exact h2, by rw [List.length_map]; exact h3⟩
    · rw [hs] at h1; cases h1)
theorem refShapeNone {w : World} {s : ByteArray} (hs : shapeF s = none) : Spec Go.Proofs.Tryd.prog 13 #[.string s] w [] (fun u _ => u = .tuple #[.slice none 0 0, .bool false]) :=
  refShape.mono (by
    rintro u H' (⟨ks2, A, c, h1, h2, h3⟩ | ⟨h1, h2⟩)
    · rw [hs] at h1; cases h1
    · exact h2)
def putN (k : Fk) (o : Opn) (n : Nat) : Opn × Bool :=
  match k with
  | .name => (o, false)
  | .member => ({ o with member := (n : Int) % 4294967296 }, decide (1 ≤ (n : Int)) && decide ((n : Int) ≤ 4294967295))
  | .price => ({ o with price := IntKind.i64.wrap (n : Int) }, decide ((n : Int) < 262144))
  | .count => ({ o with count := IntKind.i64.wrap (n : Int) }, decide ((n : Int) ≤ 999999999))
  | .lcount => ({ o with lcount := IntKind.i64.wrap (n : Int) }, decide ((n : Int) ≤ 999999999))
  | .ord => ({ o with ord := n, has := true }, true)
  | .opn => ({ o with opn := n }, true)
  | .pos => ({ o with pos := n }, true)
  | .worth => ({ o with worth := n }, true)
def putR (k : Fk) (o : Opn) (F : List Int) : Opn × Bool :=
  if k = .name then ({ o with name := strOf F }, nameB F)
  else match numOf (strOf F) with
    | some n => putN k o n
    | none => (o, false)
theorem putR_eq {k : Fk} {o : Opn} {F : List Int} (hh : (k = .opn ∨ k = .pos ∨ k = .worth) → o.has = true) : match putF k o F with | some o' => putR k o F = (o', true) | none => (putR k o F).2 = false := by
  by_cases hk : k = .name
  · subst hk
    unfold putR
    rw [if_pos rfl]
    simp only [putF]
    by_cases h : nameB F = true
    · rw [if_pos h, h]
    · rw [if_neg h]; simpa using h
  unfold putR
  rw [if_neg hk]
  cases hn : numOf (strOf F) with
  | none =>
    have hw : ∀ m, within F m = none := by intro m; unfold within; rw [hn]; rfl
    cases k <;> first | exact absurd rfl hk | simp [putF, hw]
  | some n =>
    have hw : ∀ m, within F m = if n ≤ m then some n else none := by intro m; unfold within; rw [hn]; rfl
    have hnb := (numOf_some hn).2
    cases k
    case name => exact absurd rfl hk
    case member =>
      simp only [putF, hw, putN]
      by_cases h : n ≤ 4294967295
      · rw [if_pos h]
        simp only [Option.bind_some]
        by_cases h1 : 1 ≤ n
        · rw [if_pos h1, decide_eq_true (by omega), decide_eq_true (by omega), show (n : Int) % 4294967296 = (n : Int) by omega]
          rfl
        · rw [if_neg h1]
          simp only [Bool.and_eq_false_iff, decide_eq_false_iff_not]
          omega
      · rw [if_neg h]
        simp only [Option.bind_none, Bool.and_eq_false_iff, decide_eq_false_iff_not]
        omega
    case price =>
      simp only [putF, hw, putN]
      by_cases h : n ≤ 262143
      · rw [if_pos h, wrap_i64 _ (by omega), decide_eq_true (by omega)]; rfl
      · rw [if_neg h]; exact decide_eq_false (by omega)
    case count =>
      simp only [putF, hw, putN]
      by_cases h : n ≤ 999999999
      · rw [if_pos h, wrap_i64 _ (by omega), decide_eq_true (by omega)]; rfl
      · rw [if_neg h]; exact decide_eq_false (by omega)
    case lcount =>
      simp only [putF, hw, putN]
      by_cases h : n ≤ 999999999
      · rw [if_pos h, wrap_i64 _ (by omega), decide_eq_true (by omega)]; rfl
      · rw [if_neg h]; exact decide_eq_false (by omega)
    case ord => simp only [putF, hw, putN]; rw [if_pos hnb]; rfl
    case opn => simp only [putF, hw, putN]; rw [if_pos hnb, ← hh (.inl rfl)]; rfl
    case pos => simp only [putF, hw, putN]; rw [if_pos hnb, ← hh (.inr (.inl rfl))]; rfl
    case worth => simp only [putF, hw, putN]; rw [if_pos hnb, ← hh (.inr (.inr rfl))]; rfl
theorem natV_two (s : ByteArray) : ∃ (n : Nat) (b : Bool), natV (natF s) = .tuple #[.int .u64 (n : Int), .bool b] ∧ numOf s = (if b = true then some n else none) ∧ n ≤ 18446744073709551615 := by
  rw [natF_eq]
  cases h : numOf s with
  | none => exact ⟨0, false, rfl, rfl, by omega⟩
  | some n => exact ⟨n, true, rfl, rfl, (numOf_some h).2⟩
theorem kstr_cases (k : Fk) : kstr k = ⟨#[110, 97, 109, 101]⟩ ∨ kstr k = ⟨#[112, 114, 105, 99, 101]⟩ ∨ kstr k = ⟨#[109, 101, 109, 98, 101, 114]⟩ ∨ kstr k = ⟨#[99, 111, 117, 110, 116]⟩ ∨ kstr k = ⟨#[111, 114, 100, 101, 114]⟩ ∨ kstr k = ⟨#[111, 112, 101, 110]⟩ ∨ kstr k = ⟨#[112, 111, 115, 105, 116, 105, 111, 110]⟩ ∨ kstr k = ⟨#[119, 111, 114, 116, 104]⟩ := by
  cases k <;> simp [kstr]
set_option maxHeartbeats 4000000 in
set_option maxRecDepth 100000 in
theorem refPut {w : World} {k : Fk} {o : Opn} {F : List Int} (hB : isBytes F) (hl : F.length ≤ 281474976710656) (hc : k = .count → o.word ≠ limS) (hlc : k = .lcount → o.word = limS) :
    Spec Go.Proofs.Tryd.prog 14 #[.agg o.enc.toArray, .string (kstr k), .string (strOf F)] w [] (fun u _ => u = .tuple #[.agg (putR k o F).1.enc.toArray, .bool (putR k o F).2]) := by
  obtain ⟨n, nb, hnat, hnum, hnl⟩ := natV_two (strOf F)
  have hN : ∀ w', Spec Go.Proofs.Tryd.prog 30 #[.string (strOf F)] w' [] (fun u _ => u = .tuple #[.int .u64 (n : Int), .bool nb]) := fun w' => hnat ▸ refNatural
  have hput : k ≠ .name → nb = true → putR k o F = putN k o n := fun h1 h2 => by unfold putR; rw [if_neg h1, hnum, if_pos h2]
  refine Spec.enter (fn := Go.Proofs.Tryd.f14) (n := 83) [.agg o.enc.toArray, .string (kstr k), .string (strOf F)] Go.Proofs.Tryd.func14 (by kernel_rfl) rfl Go.Proofs.Tryd.ntmps14 Go.Proofs.Tryd.results14 rfl (Own.nil _) ?_
  refine JC.rs ?_
  refine Seq.box (cs := [_, _, _, _, _, _, _, _, _, _, _]) (k := ?_); intro b3
  refine Seq.alloc (cs := [_, _, _, _, _, _, _, _, _, _, _]) (hz := z.api_Operation) (k := ?_); intro b6
  refine Seq.p rfl Ev.assign ?_
  refine Seq.nil ?_
  refine JC.seq ?_
  refine JC.rs ?_
  refine Seq.p rfl Ev.move ?_
  refine Seq.p rfl Ev.eqStr ?_
  refine Seq.nil ?_
  first | refine JC.c (ht := fun c11 => ?_) (hf := fun c11 => ?_) | refine JC.cb (ht := fun c11 => ?_) (hf := fun c11 => ?_)
  · -- then_t11
    obtain rfl : k = .name := by cases k <;> first | rfl | exact absurd c11 (by decide)
    refine JC.rs ?_
    refine Seq.p rfl Ev.move ?_
    refine Seq.p rfl (Ev.faB fd.api_Operation_1) ?_
    refine Seq.storeN [_, _, _, _, _, _, _, _, _, _, _] sz.string (k := ?_)
    refine Seq.nil ?_
    refine JC.asE 0 mixed ?_
    refine Any.p 0 rfl (by kernel_rfl) (by kernel_rfl) (by kernel_rfl) rfl (Ev.ldBA ag.api_Operation) ?_
    refine Any.p 1 rfl (by kernel_rfl) (by kernel_rfl) (by kernel_rfl) rfl Ev.move ?_
    refine Any.call 2 rfl (by kernel_rfl) (by kernel_rfl) (by kernel_rfl) rfl (fun w hw => refIsName hB hl) ?_
    refine Any.one 3 rfl (by kernel_rfl) ?_
    refine Seq.storeN [_, _, _, _, _, _, _, _, _, _, _] sz.api_Operation (k := ?_)
    refine Seq.nil ⟨(by repeat (first | exact Part.refl _ | exact Part.nil _ | apply Part.here | apply Part.skip)), ?_⟩
    refine Any.p 4 rfl (by kernel_rfl) (by kernel_rfl) (by kernel_rfl) rfl Ev.assign ?_
    refine Any.done (by kernel_rfl) ?_
    refine JC.ret ?_
    show retQ _ _ _ _ _ _ _ _
    refine retB2 ag.api_Operation (hp := Part.nil _) (hpost := ?_)
    unfold putR
    rw [if_pos rfl]
    rfl
  · -- else_t11
    have hkn : k ≠ .name := fun h => c11 (by rw [h]; rfl)
    refine JC.skip ?_
    refine JC.rs ?_
    refine Seq.p rfl Ev.move ?_
    refine Seq.callP rfl (fun w' hw => hN w') ?_
    refine Seq.p rfl Ev.move ?_
    refine Seq.p rfl Ev.extract ?_
    refine Seq.p rfl Ev.extract ?_
    refine Seq.p rfl Ev.assign ?_
    refine Seq.p rfl Ev.assign ?_
    refine Seq.nil ?_
    refine JC.seq ?_
    refine JC.rs ?_
    refine Seq.p rfl Ev.move ?_
    refine Seq.p rfl Ev.not ?_
    refine Seq.nil ?_
    first | refine JC.c (ht := fun c23 => ?_) (hf := fun c23 => ?_) | refine JC.cb (ht := fun c23 => ?_) (hf := fun c23 => ?_)
    · -- then_t23
      refine JC.rs ?_
      refine Seq.p rfl (Ev.ldBA ag.api_Operation) ?_
      refine Seq.storeN [_, _, _, _, _, _, _, _, _, _, _] sz.api_Operation (k := ?_)
      refine Seq.p rfl Ev.assign ?_
      refine Seq.nil ?_
      refine JC.ret ?_
      show retQ _ _ _ _ _ _ _ _
      refine retB2 ag.api_Operation (hp := Part.nil _) (hpost := ?_)
      have hnf : nb = false := by simpa using c23
      unfold putR
      rw [if_neg hkn, hnum, hnf]
      rfl
    · -- else_t23
      have hnb : nb = true := by simpa using c23
      have hP := hput hkn hnb
      rw [hP]
      refine JC.skip ?_
      refine JC.seq ?_
      refine JC.rs ?_
      refine Seq.p rfl Ev.move ?_
      refine Seq.nil ?_
      refine JC.blk ?_
      refine JC.rs ?_
      refine Seq.p rfl Ev.eqStr ?_
      refine Seq.p rfl Ev.assign ?_
      refine Seq.nil ?_
      first | refine JC.c (ht := fun c26 => ?_) (hf := fun c26 => ?_) | refine JC.cb (ht := fun c26 => ?_) (hf := fun c26 => ?_)
      · -- then_t26
        obtain rfl : k = .member := by cases k <;> first | rfl | exact absurd c26 (by decide)
        refine JC.rs ?_
        refine Seq.p rfl Ev.move ?_
        refine Seq.p rfl (Ev.convU32W it.uint64 it.uint32) ?_
        refine Seq.p rfl (Ev.faB fd.api_Operation_2) ?_
        refine Seq.storeN [_, _, _, _, _, _, _, _, _, _, _] sz.uint32 (k := ?_)
        refine Seq.nil ?_
        refine JC.rs ?_
        refine Seq.p rfl (Ev.ldBA ag.api_Operation) ?_
        refine Seq.p rfl Ev.move ?_
        refine Seq.p rfl Ev.ge ?_
        refine Seq.p rfl Ev.move ?_
        refine Seq.andG (D := [34, 35, 36, 37]) (d := 34) (t := 37) (k := 3) (hn := fun h34 => ?_) (hx := ?_)
        · repeat (first | refine Seq.gn rfl rfl rfl rfl ?_ | refine Seq.gu rfl rfl rfl ?_)
          refine Seq.p rfl Ev.pickF ?_
          exact Seq.nil ⟨rfl, (by repeat (first | with_reducible exact Off.refl | refine Off.upd ?_ rfl | exact Off.mix | refine Off.mix2 ?_ rfl)), Look.here⟩
        apply Exists.intro
        refine ⟨fun h34 => ?_, fun u37 => ?_⟩
        · try simp only [decide_eq_true_eq, decide_eq_false_iff_not, Bool.and_eq_true, Bool.or_eq_true, Bool.not_eq_true', Bool.not_eq_false', Bool.or_eq_false_iff, Bool.and_eq_false_imp] at h34
          refine Seq.gy rfl rfl rfl ?_
          refine Seq.p rfl Ev.move ?_
          refine Seq.gy rfl rfl rfl ?_
          refine Seq.p rfl Ev.le ?_
          refine Seq.p rfl Ev.pickT ?_
          exact Seq.nil ⟨rfl, (by repeat (first | with_reducible exact Off.refl | refine Off.upd ?_ rfl | exact Off.mix | refine Off.mix2 ?_ rfl)), Look.here⟩
        refine Seq.storeN [_, _, _, _, _, _, _, _, _, _, _] sz.api_Operation (k := ?_)
        refine Seq.p rfl Ev.assign ?_
        refine Seq.nil ?_
        refine JC.ret ?_
        show retQ _ _ _ _ _ _ _ _
        refine retB2 ag.api_Operation (hp := Part.nil _) (hpost := ?_)
        rfl
      · -- else_t26
        refine JC.rs ?_
        refine Seq.p rfl Ev.eqStr ?_
        refine Seq.p rfl Ev.assign ?_
        refine Seq.nil ?_
        first | refine JC.c (ht := fun c38 => ?_) (hf := fun c38 => ?_) | refine JC.cb (ht := fun c38 => ?_) (hf := fun c38 => ?_)
        · -- then_t38
          obtain rfl : k = .price := by cases k <;> first | rfl | exact absurd c38 (by decide)
          refine JC.rs ?_
          refine Seq.p rfl Ev.move ?_
          refine Seq.p rfl (Ev.convW it.uint64 it.int) ?_
          refine Seq.p rfl (Ev.faB fd.api_Operation_3) ?_
          refine Seq.storeN [_, _, _, _, _, _, _, _, _, _, _] sz.int (k := ?_)
          refine Seq.nil ?_
          refine JC.rs ?_
          refine Seq.p rfl (Ev.ldBA ag.api_Operation) ?_
          refine Seq.p rfl Ev.move ?_
          refine Seq.p rfl Ev.lt ?_
          refine Seq.storeN [_, _, _, _, _, _, _, _, _, _, _] sz.api_Operation (k := ?_)
          refine Seq.p rfl Ev.assign ?_
          refine Seq.nil ?_
          refine JC.ret ?_
          show retQ _ _ _ _ _ _ _ _
          refine retB2 ag.api_Operation (hp := Part.nil _) (hpost := ?_)
          simp only [putN, Opn.enc]
        · -- else_t38
          refine JC.rs ?_
          refine Seq.p rfl Ev.eqStr ?_
          refine Seq.p rfl Ev.assign ?_
          refine Seq.nil ?_
          first | refine JC.c (ht := fun c46 => ?_) (hf := fun c46 => ?_) | refine JC.cb (ht := fun c46 => ?_) (hf := fun c46 => ?_)
          · -- then_t46
            refine JC.seq ?_
            refine JC.rs ?_
            refine Seq.p rfl (Ev.faB fd.api_Operation_0) ?_
            refine Seq.p rfl (Ev.ldB sc.string) ?_
            refine Seq.p rfl Ev.eqStr ?_
            refine Seq.nil ?_
            first | refine JC.c (ht := fun c50 => ?_) (hf := fun c50 => ?_) | refine JC.cb (ht := fun c50 => ?_) (hf := fun c50 => ?_)
            · -- then_t50
              obtain rfl : k = .lcount := by cases k <;> first | rfl | exact absurd c50 (hc rfl) | exact absurd c46 (by decide)
              refine JC.reg ?_
              refine Seq.p rfl Ev.move ?_
              refine Seq.p rfl (Ev.convW it.uint64 it.int) ?_
              refine Seq.p rfl (Ev.faB fd.api_Operation_5) ?_
              refine Seq.p rfl (Ev.faB fd.api_Limits_2) ?_
              refine Seq.storeN [_, _, _, _, _, _, _, _, _, _, _] sz.int (k := ?_)
              refine Seq.nil ?_
              refine JC.rs ?_
              refine Seq.p rfl (Ev.ldBA ag.api_Operation) ?_
              refine Seq.p rfl Ev.move ?_
              refine Seq.p rfl Ev.le ?_
              refine Seq.storeN [_, _, _, _, _, _, _, _, _, _, _] sz.api_Operation (k := ?_)
              refine Seq.p rfl Ev.assign ?_
              refine Seq.nil ?_
              refine JC.ret ?_
              show retQ _ _ _ _ _ _ _ _
              refine retB2 ag.api_Operation (hp := Part.nil _) (hpost := ?_)
              rfl
            · -- else_t50
              obtain rfl : k = .count := by cases k <;> first | rfl | exact absurd (hlc rfl) c50 | exact absurd c46 (by decide)
              refine JC.reg ?_
              refine Seq.p rfl Ev.move ?_
              refine Seq.p rfl (Ev.convW it.uint64 it.int) ?_
              refine Seq.p rfl (Ev.faB fd.api_Operation_4) ?_
              refine Seq.storeN [_, _, _, _, _, _, _, _, _, _, _] sz.int (k := ?_)
              refine Seq.nil ?_
              refine JC.rs ?_
              refine Seq.p rfl (Ev.ldBA ag.api_Operation) ?_
              refine Seq.p rfl Ev.move ?_
              refine Seq.p rfl Ev.le ?_
              refine Seq.storeN [_, _, _, _, _, _, _, _, _, _, _] sz.api_Operation (k := ?_)
              refine Seq.p rfl Ev.assign ?_
              refine Seq.nil ?_
              refine JC.ret ?_
              show retQ _ _ _ _ _ _ _ _
              refine retB2 ag.api_Operation (hp := Part.nil _) (hpost := ?_)
              rfl
          · -- else_t46
            refine JC.rs ?_
            refine Seq.p rfl Ev.eqStr ?_
            refine Seq.p rfl Ev.assign ?_
            refine Seq.nil ?_
            first | refine JC.c (ht := fun c61 => ?_) (hf := fun c61 => ?_) | refine JC.cb (ht := fun c61 => ?_) (hf := fun c61 => ?_)
            · -- then_t61
              obtain rfl : k = .ord := by cases k <;> first | rfl | exact absurd c61 (by decide)
              refine JC.reg ?_
              refine Seq.p rfl Ev.move ?_
              refine Seq.p rfl (Ev.faB fd.api_Operation_5) ?_
              refine Seq.p rfl (Ev.faB fd.api_Limits_0) ?_
              refine Seq.storeN [_, _, _, _, _, _, _, _, _, _, _] sz.uint64 (k := ?_)
              refine Seq.p rfl (Ev.faB fd.api_Operation_6) ?_
              refine Seq.storeN [_, _, _, _, _, _, _, _, _, _, _] sz.bool (k := ?_)
              refine Seq.nil ?_
              refine JC.rs ?_
              refine Seq.p rfl (Ev.ldBA ag.api_Operation) ?_
              refine Seq.storeN [_, _, _, _, _, _, _, _, _, _, _] sz.api_Operation (k := ?_)
              refine Seq.p rfl Ev.assign ?_
              refine Seq.nil ?_
              refine JC.ret ?_
              show retQ _ _ _ _ _ _ _ _
              refine retB2 ag.api_Operation (hp := Part.nil _) (hpost := ?_)
              rfl
            · -- else_t61
              refine JC.rs ?_
              refine Seq.p rfl Ev.eqStr ?_
              refine Seq.p rfl Ev.assign ?_
              refine Seq.nil ?_
              first | refine JC.c (ht := fun c67 => ?_) (hf := fun c67 => ?_) | refine JC.cb (ht := fun c67 => ?_) (hf := fun c67 => ?_)
              · -- then_t67
                obtain rfl : k = .opn := by cases k <;> first | rfl | exact absurd c67 (by decide)
                refine JC.reg ?_
                refine Seq.p rfl Ev.move ?_
                refine Seq.p rfl (Ev.faB fd.api_Operation_5) ?_
                refine Seq.p rfl (Ev.faB fd.api_Limits_1) ?_
                refine Seq.storeN [_, _, _, _, _, _, _, _, _, _, _] sz.uint64 (k := ?_)
                refine Seq.nil ?_
                refine JC.rs ?_
                refine Seq.p rfl (Ev.ldBA ag.api_Operation) ?_
                refine Seq.storeN [_, _, _, _, _, _, _, _, _, _, _] sz.api_Operation (k := ?_)
                refine Seq.p rfl Ev.assign ?_
                refine Seq.nil ?_
                refine JC.ret ?_
                show retQ _ _ _ _ _ _ _ _
                refine retB2 ag.api_Operation (hp := Part.nil _) (hpost := ?_)
                rfl
              · -- else_t67
                refine JC.rs ?_
                refine Seq.p rfl Ev.eqStr ?_
                refine Seq.p rfl Ev.assign ?_
                refine Seq.nil ?_
                first | refine JC.c (ht := fun c72 => ?_) (hf := fun c72 => ?_) | refine JC.cb (ht := fun c72 => ?_) (hf := fun c72 => ?_)
                · -- then_t72
                  obtain rfl : k = .pos := by cases k <;> first | rfl | exact absurd c72 (by decide)
                  refine JC.reg ?_
                  refine Seq.p rfl Ev.move ?_
                  refine Seq.p rfl (Ev.faB fd.api_Operation_5) ?_
                  refine Seq.p rfl (Ev.faB fd.api_Limits_3) ?_
                  refine Seq.storeN [_, _, _, _, _, _, _, _, _, _, _] sz.uint64 (k := ?_)
                  refine Seq.nil ?_
                  refine JC.rs ?_
                  refine Seq.p rfl (Ev.ldBA ag.api_Operation) ?_
                  refine Seq.storeN [_, _, _, _, _, _, _, _, _, _, _] sz.api_Operation (k := ?_)
                  refine Seq.p rfl Ev.assign ?_
                  refine Seq.nil ?_
                  refine JC.ret ?_
                  show retQ _ _ _ _ _ _ _ _
                  refine retB2 ag.api_Operation (hp := Part.nil _) (hpost := ?_)
                  rfl
                · -- else_t72
                  refine JC.rs ?_
                  refine Seq.p rfl Ev.eqStr ?_
                  refine Seq.p rfl Ev.assign ?_
                  refine Seq.nil ?_
                  first | refine JC.c (ht := fun c77 => ?_) (hf := fun c77 => ?_) | refine JC.cb (ht := fun c77 => ?_) (hf := fun c77 => ?_)
                  · -- then_t77
                    obtain rfl : k = .worth := by cases k <;> first | rfl | exact absurd c77 (by decide)
                    refine JC.reg ?_
                    refine Seq.p rfl Ev.move ?_
                    refine Seq.p rfl (Ev.faB fd.api_Operation_5) ?_
                    refine Seq.p rfl (Ev.faB fd.api_Limits_4) ?_
                    refine Seq.storeN [_, _, _, _, _, _, _, _, _, _, _] sz.uint64 (k := ?_)
                    refine Seq.nil ?_
                    refine JC.rs ?_
                    refine Seq.p rfl (Ev.ldBA ag.api_Operation) ?_
                    refine Seq.storeN [_, _, _, _, _, _, _, _, _, _, _] sz.api_Operation (k := ?_)
                    refine Seq.p rfl Ev.assign ?_
                    refine Seq.nil ?_
                    refine JC.ret ?_
                    show retQ _ _ _ _ _ _ _ _
                    refine retB2 ag.api_Operation (hp := Part.nil _) (hpost := ?_)
                    rfl
                  · -- else_t77
                    exfalso; rcases kstr_cases k with h | h | h | h | h | h | h | h <;> contradiction
end Go.Rx
/- Operators' lines read by the document: Parse. -/
namespace Go.Rx
open Go Go.RowKit Go.Lib Go.Proofs.YtonoamdonmbkpaaDoor
set_option linter.unusedVariables false
set_option linter.unusedSimpArgs false
theorem put_has {k : Fk} {o o' : Opn} {w : List Int} (h : putF k o w = some o') (hk : o.has = true ∨ k = .ord) : o'.has = true := by
  cases k <;> simp only [putF, Option.map_eq_some_iff, Option.bind_eq_some_iff] at h
  case name =>
    split at h
    · simp only [Option.some.injEq] at h; subst h; rcases hk with hk | hk; exact hk; cases hk
    · cases h
  case member =>
    obtain ⟨n, h1, h2⟩ := h
    split at h2
    · simp only [Option.some.injEq] at h2; subst h2; rcases hk with hk | hk; exact hk; cases hk
    · cases h2
  all_goals
    obtain ⟨n, h1, rfl⟩ := h
    first | rfl | (rcases hk with hk | hk; exact hk; cases hk)
theorem lim_idx {s : ByteArray} {ks : List Fk} {j : Nat} (h : shapeF s = some ks) (hj : j < ks.length) :
    ((ks[j]! = .opn ∨ ks[j]! = .pos ∨ ks[j]! = .worth) → ks = limK ∧ 2 ≤ j) ∧ (ks[j]! = .count → s ≠ limS) ∧ (ks[j]! = .lcount → s = limS) ∧ (ks = limK → j = 1 → ks[j]! = .ord) := by
  have key : ∀ (l : List Fk) (j : Nat), l.all (fun k => !(k == .opn || k == .pos || k == .worth || k == .lcount)) = true → j < l.length → ¬ (l[j]! = .opn ∨ l[j]! = .pos ∨ l[j]! = .worth) ∧ l[j]! ≠ .lcount := by
    intro l j hall hj
    have := List.all_eq_true.1 hall l[j] (List.getElem_mem hj)
    rw [getElem!_pos l j hj]
    revert this
    cases l[j] <;> decide
  rcases (shape_cases h).1 with ⟨hk, hs⟩ | ⟨hk, hs⟩
  · have hall : ks.all (fun k => !(k == .opn || k == .pos || k == .worth || k == .lcount)) = true := by
      rcases hk with hk | hk | hk | hk | hk <;> (subst hk; decide)
    obtain ⟨k1, k2⟩ := key ks j hall hj
    refine ⟨fun h => absurd h k1, fun _ => hs, fun h => absurd h k2, fun h => ?_⟩
    subst h
    exact absurd hall (by decide)
  · subst hk
    have hj6 : j < 6 := hj
    refine ⟨fun h => ⟨rfl, ?_⟩, fun h => ?_, fun _ => hs, fun _ h => by subst h; rfl⟩
    · rcases (by omega : j = 0 ∨ j = 1 ∨ 2 ≤ j) with rfl | rfl | h2
      · exact absurd h (by decide)
      · exact absurd h (by decide)
      · exact h2
    · exfalso
      rcases (by omega : j = 0 ∨ j = 1 ∨ j = 2 ∨ j = 3 ∨ j = 4 ∨ j = 5) with rfl | rfl | rfl | rfl | rfl | rfl <;> exact absurd h (by decide)
set_option maxHeartbeats 2000000 in
set_option maxRecDepth 100000 in
theorem refParseNone {w : World} {F : List Int} (hB : isBytes F) (hl : F.length ≤ 281474976710656) (hs : shapeF (strOf (F.take (firstF 32 F))) = none) :
    Spec Go.Proofs.Tryd.prog 6 #[.string (strOf F)] w [] (fun u _ => u = parseV (parseF F)) := by
  have hss := strOf_size F
  have hw0 : ∀ w', Spec Go.Proofs.Tryd.prog 12 #[.string (strOf F), .int .i64 0] w' [] (fun u _ => u = .tuple #[.string (strOf (F.take (firstF 32 F))), .int .i64 ((firstF 32 F : Nat) : Int)]) := fun w' => by
    have h := refWord (w := w') (p := 0) hB (Nat.zero_le _) hl
    rw [List.drop_zero, Nat.zero_add] at h
    exact h
  refine Spec.enter (fn := Go.Proofs.Tryd.f6) (n := 79) [.string (strOf F)] Go.Proofs.Tryd.func6 (by kernel_rfl) rfl Go.Proofs.Tryd.ntmps6 Go.Proofs.Tryd.results6 rfl (Own.nil _) ?_
  refine JC.rs ?_
  refine Seq.alloc (cs := [_, _, _, _, _, _, _, _, _, _, _]) (hz := z.api_Operation) (k := ?_); intro b2
  refine Seq.p rfl Ev.assign ?_
  refine Seq.p rfl Ev.assign ?_
  refine Seq.nil ?_
  refine JC.seq ?_
  refine JC.rs ?_
  refine Seq.p rfl Ev.move ?_
  refine Seq.p rfl (Ev.lenStr st.string) ?_
  refine Seq.p rfl Ev.gt ?_
  refine Seq.nil ?_
  first | refine JC.c (ht := fun c14 => ?_) (hf := fun c14 => ?_) | refine JC.cb (ht := fun c14 => ?_) (hf := fun c14 => ?_)
  · -- then_t14
    refine JC.rs ?_
    refine Seq.p rfl (Ev.buildN [_, _, _, _, _, _, _, _, _, _, _] pl.api_Operation z.api_Operation) ?_
    refine Seq.storeN [_, _, _, _, _, _, _, _, _, _, _] sz.api_Operation (k := ?_)
    refine Seq.p rfl Ev.assign ?_
    refine Seq.p rfl Ev.assign ?_
    refine Seq.nil ?_
    refine JC.ret ?_
    show retQ _ _ _ _ _ _ _ _
    refine retB3 ag.api_Operation (hp := Part.nil _) (hpost := ?_)
    unfold parseF
    rw [if_pos (by omega)]
    rfl
  · -- else_t14
    refine JC.skip ?_
    refine JC.rs ?_
    refine Seq.p rfl Ev.move ?_
    refine Seq.callP rfl (fun w' hw => hw0 w') ?_
    refine Seq.p rfl Ev.move ?_
    refine Seq.p rfl Ev.extract ?_
    refine Seq.p rfl Ev.extract ?_
    refine Seq.p rfl Ev.assign ?_
    refine Seq.p rfl Ev.assign ?_
    refine Seq.nil ?_
    refine JC.rs ?_
    refine Seq.p rfl Ev.move ?_
    refine Seq.callP rfl (fun w hw => refShapeNone hs) ?_
    refine Seq.p rfl Ev.move ?_
    refine Seq.p rfl Ev.extract ?_
    refine Seq.p rfl Ev.extract ?_
    refine Seq.p rfl Ev.assign ?_
    refine Seq.p rfl Ev.assign ?_
    refine Seq.nil ?_
    refine JC.seq ?_
    refine JC.rs ?_
    refine Seq.p rfl Ev.move ?_
    refine Seq.p rfl Ev.not ?_
    refine Seq.nil ?_
    first | refine JC.c (ht := fun c27 => ?_) (hf := fun c27 => ?_) | refine JC.cb (ht := fun c27 => ?_) (hf := fun c27 => ?_)
    · -- then_t27
      refine JC.rs ?_
      refine Seq.p rfl (Ev.buildN [_, _, _, _, _, _, _, _, _, _, _] pl.api_Operation z.api_Operation) ?_
      refine Seq.storeN [_, _, _, _, _, _, _, _, _, _, _] sz.api_Operation (k := ?_)
      refine Seq.p rfl Ev.assign ?_
      refine Seq.p rfl Ev.assign ?_
      refine Seq.nil ?_
      refine JC.ret ?_
      show retQ _ _ _ _ _ _ _ _
      refine retB3 ag.api_Operation (hp := Part.nil _) (hpost := ?_)
      unfold parseF
      rw [if_neg (by omega), hs]
      rfl
    · -- else_t27
      simp at c27
set_option maxHeartbeats 4000000 in
set_option maxRecDepth 100000 in
theorem refParseSome {w : World} {F : List Int} {ks : List Fk} (hB : isBytes F) (hl : F.length ≤ 281474976710656) (hs : shapeF (strOf (F.take (firstF 32 F))) = some ks) :
    Spec Go.Proofs.Tryd.prog 6 #[.string (strOf F)] w [] (fun u _ => u = parseV (parseF F)) := by
  have hss := strOf_size F
  have hfl := firstF_le 32 F
  have hksz := (shape_size hs).2
  have hpf : F.length ≤ 2048 → parseF F = parseK ks { op0 with word := strOf (F.take (firstF 32 F)) } (F.drop (firstF 32 F)) (firstF 32 F) := fun h => by unfold parseF; rw [if_neg (by omega), hs]
  have hw0 : ∀ w', Spec Go.Proofs.Tryd.prog 12 #[.string (strOf F), .int .i64 0] w' [] (fun u _ => u = .tuple #[.string (strOf (F.take (firstF 32 F))), .int .i64 ((firstF 32 F : Nat) : Int)]) := fun w' => by
    have h := refWord (w := w') (p := 0) hB (Nat.zero_le _) hl
    rw [List.drop_zero, Nat.zero_add] at h
    exact h
  obtain ⟨n, hn⟩ : ∃ n, n = firstF 32 F := ⟨_, rfl⟩
  rw [← hn] at hs hfl hpf hw0
  obtain ⟨K, hK⟩ : ∃ K, K = ks.map kstr := ⟨_, rfl⟩
  have hKl : K.length = ks.length := by rw [hK, List.length_map]
  have hKg : ∀ j, j < ks.length → K[j]! = kstr ks[j]! := fun j hj => by
    rw [getElem!_pos K j (by omega), getElem!_pos ks j hj]
    subst hK
    exact List.getElem_map ..
  refine Spec.enter (fn := Go.Proofs.Tryd.f6) (n := 79) [.string (strOf F)] Go.Proofs.Tryd.func6 (by kernel_rfl) rfl Go.Proofs.Tryd.ntmps6 Go.Proofs.Tryd.results6 rfl (Own.nil _) ?_
  refine JC.rs ?_
  refine Seq.alloc (cs := [_, _, _, _, _, _, _, _, _, _, _]) (hz := z.api_Operation) (k := ?_); intro b2
  refine Seq.p rfl Ev.assign ?_
  refine Seq.p rfl Ev.assign ?_
  refine Seq.nil ?_
  refine JC.seq ?_
  refine JC.rs ?_
  refine Seq.p rfl Ev.move ?_
  refine Seq.p rfl (Ev.lenStr st.string) ?_
  refine Seq.p rfl Ev.gt ?_
  refine Seq.nil ?_
  first | refine JC.c (ht := fun c14 => ?_) (hf := fun c14 => ?_) | refine JC.cb (ht := fun c14 => ?_) (hf := fun c14 => ?_)
  · -- then_t14
    refine JC.rs ?_
    refine Seq.p rfl (Ev.buildN [_, _, _, _, _, _, _, _, _, _, _] pl.api_Operation z.api_Operation) ?_
    refine Seq.storeN [_, _, _, _, _, _, _, _, _, _, _] sz.api_Operation (k := ?_)
    refine Seq.p rfl Ev.assign ?_
    refine Seq.p rfl Ev.assign ?_
    refine Seq.nil ?_
    refine JC.ret ?_
    show retQ _ _ _ _ _ _ _ _
    refine retB3 ag.api_Operation (hp := Part.nil _) (hpost := ?_)
    unfold parseF
    rw [if_pos (by omega)]
    rfl
  · -- else_t14
    have h2048 : F.length ≤ 2048 := by omega
    have hP := hpf h2048
    clear hpf
    refine JC.skip ?_
    refine JC.rs ?_
    refine Seq.p rfl Ev.move ?_
    refine Seq.callP rfl (fun w' hw => hw0 w') ?_
    refine Seq.p rfl Ev.move ?_
    refine Seq.p rfl Ev.extract ?_
    refine Seq.p rfl Ev.extract ?_
    refine Seq.p rfl Ev.assign ?_
    refine Seq.p rfl Ev.assign ?_
    refine Seq.nil ?_
    refine JC.rs ?_
    refine Seq.p rfl Ev.move ?_
    refine Seq.call rfl (fun w' hw => refShapeSome hs hK) (Gs := []) (F := _) (by exact List.Perm.refl _) ?_
    rintro _ _ ⟨A, c, rfl, rfl⟩
    simp only [List.cons_append, List.nil_append]
    refine Seq.p rfl Ev.move ?_
    refine Seq.p rfl Ev.extract ?_
    refine Seq.p rfl Ev.extract ?_
    refine Seq.p rfl Ev.assign ?_
    refine Seq.p rfl Ev.assign ?_
    refine Seq.nil ?_
    refine JC.seq ?_
    refine JC.rs ?_
    refine Seq.p rfl Ev.move ?_
    refine Seq.p rfl Ev.not ?_
    refine Seq.nil ?_
    first | refine JC.c (ht := fun c27 => ?_) (hf := fun c27 => ?_) | refine JC.cb (ht := fun c27 => ?_) (hf := fun c27 => ?_)
    · -- then_t27
      simp at c27
    · -- else_t27
      refine JC.skip ?_
      refine JC.rs ?_
      refine Seq.p rfl Ev.move ?_
      refine Seq.p rfl (Ev.buildN (Opn.enc { op0 with word := strOf (F.take n) }) pl.api_Operation z.api_Operation) ?_
      refine Seq.alloc (cs := [_, _, _, _, _, _, _, _, _, _, _]) (hz := z.api_Operation) (k := ?_); intro b9
      refine Seq.storeTo (cs' := Opn.enc { op0 with word := strOf (F.take n) }) sz.api_Operation (hH := At.z) (hfit := Nat.le_of_ble_eq_true rfl) (hcs := rfl) (k := ?_)
      refine Seq.nil ?_
      refine JC.seq ?_
      refine JC.rs ?_
      refine Seq.p rfl Ev.assign ?_
      refine Seq.nil ?_
      refine JC.blk ?_
      obtain ⟨o0, ho0⟩ : ∃ o : Opn, o = { op0 with word := strOf (F.take n) } := ⟨_, rfl⟩
      have hw00 : o0.word = strOf (F.take n) := by rw [ho0]
      rw [← ho0] at hP ⊢
      refine JC.loop (α := Nat × Opn × Nat) (I := fun q e1 H1 => Has [3, 4, 5, 6, 8, 10, 11, 31, 32, 33, 34, 35, 36, 37, 38, 39, 40, 41, 42, 43, 44, 45, 46, 47, 48, 49, 50, 51, 52, 53, 54, 55, 56, 57, 58, 59, 60, 61, 62, 63, 64, 65, 66, 67, 68, 69, 70] [(10, .int .i64 (q.1 : Int)), (6, .int .i64 (q.2.2 : Int))] _ e1 ∧ H1 = [.box b9 27 q.2.1.enc, .own 9 1 (.slice A K.length c) K.length (K.flatMap strEnc), .box b2 27 op0.enc] ∧ q.1 ≤ ks.length ∧ parseF F = parseK (ks.drop q.1) q.2.1 (F.drop q.2.2) q.2.2 ∧ q.2.2 ≤ F.length ∧ q.2.1.word = strOf (F.take n) ∧ (ks = limK → 2 ≤ q.1 → q.2.1.has = true)) (μ := fun q => ks.length - q.1) (0, o0, n) ⟨Has.mk Off.refl (allLook_cons (by repeat (first | exact Look.here | apply Look.there (hne := rfl) | exact Look.const | apply Look.mix rfl | exact Look.arg0 | apply Look.args | exact Look.func)) (allLook_cons (by repeat (first | exact Look.here | apply Look.there (hne := rfl) | exact Look.const | apply Look.mix rfl | exact Look.arg0 | apply Look.args | exact Look.func)) allLook_nil)), rfl, Nat.zero_le _, hP, hfl, hw00, fun _ h => by have h2 : 2 ≤ 0 := h; omega⟩ ?_
      rintro ⟨j, o, p⟩ _ _ ⟨⟨u, rfl⟩, rfl, hj, hq, hp, hwd, hhas⟩; dsimp only [setL]; dsimp only at hj hq hp hwd hhas
      refine JC.seq ?_
      refine JC.rs ?_
      refine Seq.p rfl Ev.move ?_
      refine Seq.p rfl Ev.move ?_
      refine Seq.p rfl (Ev.lenSl sl.sl_string (hr := RAt.own (enc := strEnc) (v := .slice A K.length c) (xs := K) (hs := by omega))) ?_
      refine Seq.p rfl Ev.lt ?_
      refine Seq.nil ?_
      first | refine JC.c (ht := fun c34 => ?_) (hf := fun c34 => ?_) | refine JC.cb (ht := fun c34 => ?_) (hf := fun c34 => ?_)
      · -- then_t34
        have hj2 : j < ks.length := by omega
        have hkd : ks.drop j = ks[j]! :: ks.drop (j + 1) := by rw [getElem!_pos ks j hj2]; exact List.drop_eq_getElem_cons hj2
        obtain ⟨hi1, hi2, hi3, hi4⟩ := lim_idx hs hj2
        have hkj := hKg j hj2
        obtain ⟨k, hk⟩ : ∃ k, k = ks[j]! := ⟨_, rfl⟩
        rw [← hk] at hkd hi1 hi2 hi3 hi4 hkj
        rw [hkd] at hq
        refine JC.skip ?_
        refine JC.seq ?_
        refine JC.blk ?_
        refine JC.seq ?_
        refine JC.rs ?_
        refine Seq.p rfl Ev.move ?_
        refine Seq.p rfl Ev.move ?_
        refine Seq.p rfl (Ev.lenStr st.string) ?_
        refine Seq.p rfl Ev.eq ?_
        refine Seq.nil ?_
        first | refine JC.c (ht := fun c40 => ?_) (hf := fun c40 => ?_) | refine JC.cb (ht := fun c40 => ?_) (hf := fun c40 => ?_)
        · -- then_t40
          refine JC.rs ?_
          refine Seq.p rfl (Ev.buildN [_, _, _, _, _, _, _, _, _, _, _] pl.api_Operation z.api_Operation) ?_
          refine Seq.p rfl Ev.move ?_
          refine Seq.p rfl (Ev.lenStr st.string) ?_
          refine Seq.storeN [_, _, _, _, _, _, _, _, _, _, _] sz.api_Operation (k := ?_)
          refine Seq.p rfl Ev.assign ?_
          refine Seq.p rfl Ev.assign ?_
          refine Seq.nil ?_
          refine JC.ret ?_
          show retQ _ _ _ _ _ _ _ _
          refine retB3 ag.api_Operation (hp := Part.nil _) (hpost := ?_)
          obtain rfl : p = F.length := by omega
          rw [List.drop_length] at hq
          rw [hq, hss]
          rfl
        · -- else_t40
          have hp2 : p < F.length := by omega
          rw [List.drop_eq_getElem_cons hp2] at hq
          simp only [parseK] at hq
          obtain ⟨R', hR'⟩ : ∃ R', R' = F.drop (p + 1) := ⟨_, rfl⟩
          have hBR : isBytes R' := fun x hx => hB x (List.mem_of_mem_drop (hR' ▸ hx))
          have hRl : R'.length = F.length - (p + 1) := by rw [hR', List.length_drop]
          have hml := firstF_le 32 R'
          have hw2 : ∀ w', Spec Go.Proofs.Tryd.prog 12 #[.string (strOf F), .int .i64 ((p + 1 : Nat) : Int)] w' [] (fun u _ => u = .tuple #[.string (strOf (R'.take (firstF 32 R'))), .int .i64 ((p + 1 + firstF 32 R' : Nat) : Int)]) := fun w' => by rw [hR']; exact refWord hB (by omega) hl
          rw [← hR'] at hq
          obtain ⟨m, hm⟩ : ∃ m, m = firstF 32 R' := ⟨_, rfl⟩
          rw [← hm] at hq hml hw2
          obtain ⟨o', ok, hpr⟩ : ∃ o' ok, putR k o (R'.take m) = (o', ok) := ⟨_, _, rfl⟩
          have hpe := putR_eq (k := k) (o := o) (F := R'.take m) (fun h => hhas (hi1 h).1 (hi1 h).2)
          have hps : ∀ w', Spec Go.Proofs.Tryd.prog 14 #[.agg o.enc.toArray, .string (kstr k), .string (strOf (R'.take m))] w' [] (fun u _ => u = .tuple #[.agg o'.enc.toArray, .bool ok]) := fun w' => by
            have h := refPut (w := w') (k := k) (o := o) (F := R'.take m) (fun x hx => hBR x (List.mem_of_mem_take hx)) (by rw [List.length_take]; omega) (fun h => hwd ▸ hi2 h) (fun h => hwd ▸ hi3 h)
            rw [hpr] at h
            exact h
          rw [hpr] at hpe
          refine JC.skip ?_
          refine JC.rs ?_
          refine Seq.p rfl Ev.move ?_
          refine Seq.p rfl (by first | exact Ev.inc | exact Ev.add) ?_
          refine Seq.p rfl Ev.assign ?_
          refine Seq.nil ?_
          refine JC.rs ?_
          refine Seq.p rfl Ev.move ?_
          refine Seq.p rfl Ev.move ?_
          refine Seq.callP rfl (fun w' hw => hw2 w') ?_
          refine Seq.p rfl Ev.move ?_
          refine Seq.p rfl Ev.extract ?_
          refine Seq.p rfl Ev.extract ?_
          refine Seq.p rfl Ev.assign ?_
          refine Seq.p rfl Ev.assign ?_
          refine Seq.nil ?_
          refine JC.seq ?_
          refine JC.rs ?_
          refine Seq.p rfl Ev.move ?_
          refine Seq.p rfl Ev.move ?_
          refine Seq.p rfl Ev.eq ?_
          refine Seq.nil ?_
          first | refine JC.c (ht := fun c54 => ?_) (hf := fun c54 => ?_) | refine JC.cb (ht := fun c54 => ?_) (hf := fun c54 => ?_)
          · -- then_t54
            refine JC.rs ?_
            refine Seq.p rfl (Ev.buildN [_, _, _, _, _, _, _, _, _, _, _] pl.api_Operation z.api_Operation) ?_
            refine Seq.p rfl Ev.move ?_
            refine Seq.storeN [_, _, _, _, _, _, _, _, _, _, _] sz.api_Operation (k := ?_)
            refine Seq.p rfl Ev.assign ?_
            refine Seq.p rfl Ev.assign ?_
            refine Seq.nil ?_
            refine JC.ret ?_
            show retQ _ _ _ _ _ _ _ _
            refine retB3 ag.api_Operation (hp := Part.nil _) (hpost := ?_)
            obtain rfl : m = 0 := by omega
            rw [List.take_zero, put_nil] at hq
            rw [hq, Int.natCast_add]
            rfl
          · -- else_t54
            refine JC.skip ?_
            refine JC.asE 0 mixed ?_
            refine Any.p 1 rfl (by kernel_rfl) (by kernel_rfl) (by kernel_rfl) rfl Ev.move ?_
            refine Any.p 2 rfl (by kernel_rfl) (by kernel_rfl) (by kernel_rfl) rfl Ev.move ?_
            refine Any.p 3 rfl (by kernel_rfl) (by kernel_rfl) (by kernel_rfl) rfl (Ev.iaN sl.sl_string (hr := RAt.own (enc := strEnc) (v := .slice A K.length c) (xs := K) (hs := by omega))) ?_
            refine Any.p 4 rfl (by kernel_rfl) (by kernel_rfl) (by kernel_rfl) rfl (Ev.as (v := .string K[j]!) (v' := .string (kstr k)) (by rw [hkj]) (Ev.ldE1 sc.string (hr := RAt.own (enc := strEnc) (v := .slice A K.length c) (xs := K) (hs := by omega)))) ?_
            refine Any.p 5 rfl (by kernel_rfl) (by kernel_rfl) (by kernel_rfl) rfl Ev.move ?_
            refine Any.one 0 rfl (by kernel_rfl) ?_
            refine Seq.p rfl (Ev.ldBA (cs := o.enc) ag.api_Operation) ?_
            refine Seq.nil ⟨(by repeat (first | exact Part.refl _ | exact Part.nil _ | apply Part.here | apply Part.skip)), ?_⟩
            refine Any.call 6 rfl (by kernel_rfl) (by kernel_rfl) (by kernel_rfl) rfl (fun w' hw => hps w') ?_
            refine Any.p 7 rfl (by kernel_rfl) (by kernel_rfl) (by kernel_rfl) rfl Ev.move ?_
            refine Any.p 8 rfl (by kernel_rfl) (by kernel_rfl) (by kernel_rfl) rfl Ev.extract ?_
            refine Any.p 9 rfl (by kernel_rfl) (by kernel_rfl) (by kernel_rfl) rfl Ev.extract ?_
            refine Any.one 10 rfl (by kernel_rfl) ?_
            refine Seq.storeTo (cs' := o'.enc) sz.api_Operation (hH := At.z) (hfit := Nat.le_of_ble_eq_true rfl) (hcs := rfl) (k := ?_)
            refine Seq.nil ⟨(by repeat (first | exact Part.refl _ | exact Part.nil _ | apply Part.here | apply Part.skip)), ?_⟩
            refine Any.p 11 rfl (by kernel_rfl) (by kernel_rfl) (by kernel_rfl) rfl Ev.assign ?_
            refine Any.done (by kernel_rfl) ?_
            refine JC.rs ?_
            refine Seq.p rfl Ev.move ?_
            refine Seq.p rfl Ev.not ?_
            refine Seq.nil ?_
            first | refine JC.c (ht := fun c68 => ?_) (hf := fun c68 => ?_) | refine JC.cb (ht := fun c68 => ?_) (hf := fun c68 => ?_)
            · -- then_t68
              refine JC.rs ?_
              refine Seq.p rfl (Ev.buildN [_, _, _, _, _, _, _, _, _, _, _] pl.api_Operation z.api_Operation) ?_
              refine Seq.p rfl Ev.move ?_
              refine Seq.storeN [_, _, _, _, _, _, _, _, _, _, _] sz.api_Operation (k := ?_)
              refine Seq.p rfl Ev.assign ?_
              refine Seq.p rfl Ev.assign ?_
              refine Seq.nil ?_
              refine JC.ret ?_
              show retQ _ _ _ _ _ _ _ _
              refine retB3 ag.api_Operation (hp := Part.nil _) (hpost := ?_)
              have hokf : ok = false := by simpa using c68
              cases hpf : putF k o (R'.take m) with
              | some o2 => rw [hpf] at hpe; simp only [Prod.mk.injEq] at hpe; rw [hokf] at hpe; simp at hpe
              | none => rw [hpf] at hq; rw [hq, Int.natCast_add]; rfl
            · -- else_t68
              have hokt : ok = true := by simpa using c68
              have hpf : putF k o (R'.take m) = some o' := by
                cases hpf : putF k o (R'.take m) with
                | some o2 => rw [hpf] at hpe; simp only [Prod.mk.injEq] at hpe; rw [hpe.1]
                | none => rw [hpf] at hpe; simp only at hpe; rw [hokt] at hpe; cases hpe
              rw [hpf] at hq
              simp only at hq
              rw [hR', List.drop_drop] at hq
              refine JC.skip ?_
              refine JC.reg ?_
              refine Seq.p rfl Ev.move ?_
              refine Seq.p rfl (by first | exact Ev.inc | exact Ev.add) ?_
              refine Seq.p rfl Ev.assign ?_
              refine Seq.nil ?_
              refine ⟨(j + 1, o', p + 1 + m), _, Part.refl _, ⟨Has.mk (by repeat (first | refine Off.upd ?_ rfl | exact Off.mix | refine Off.mix2 ?_ rfl | exact Off.refl)) (allLook_cons (by repeat (first | exact Look.here | apply Look.there (hne := rfl) | exact Look.const | apply Look.mix rfl | exact Look.arg0 | apply Look.args | exact Look.func)) (allLook_cons (by repeat (first | exact Look.here | apply Look.there (hne := rfl) | exact Look.const | apply Look.mix rfl | exact Look.arg0 | apply Look.args | exact Look.func)) allLook_nil)), rfl, by show j + 1 ≤ _; omega, hq, by show p + 1 + m ≤ _; omega, (put_word hpf).trans hwd, fun h1 h2 => put_has hpf ?_⟩, by show ks.length - (j + 1) < ks.length - j; omega⟩
              have h2' : 2 ≤ j + 1 := h2
              rcases Nat.lt_or_ge j 2 with h3 | h3
              · exact .inr (hi4 h1 (by omega))
              · exact .inl (hhas h1 h3)
      · -- else_t34
        obtain rfl : j = ks.length := by omega
        rw [List.drop_length] at hq
        refine JC.exit ?_ -- 0
        refine JC.seq ?_
        refine JC.rs ?_
        refine Seq.p rfl Ev.move ?_
        refine Seq.p rfl Ev.move ?_
        refine Seq.p rfl (Ev.lenStr st.string) ?_
        refine Seq.p rfl Ev.lt ?_
        refine Seq.nil ?_
        first | refine JC.c (ht := fun c74 => ?_) (hf := fun c74 => ?_) | refine JC.cb (ht := fun c74 => ?_) (hf := fun c74 => ?_)
        · -- then_t74
          refine JC.rs ?_
          refine Seq.p rfl (Ev.buildN [_, _, _, _, _, _, _, _, _, _, _] pl.api_Operation z.api_Operation) ?_
          refine Seq.p rfl Ev.move ?_
          refine Seq.p rfl (by first | exact Ev.inc | exact Ev.add) ?_
          refine Seq.storeN [_, _, _, _, _, _, _, _, _, _, _] sz.api_Operation (k := ?_)
          refine Seq.p rfl Ev.assign ?_
          refine Seq.p rfl Ev.assign ?_
          refine Seq.nil ?_
          refine JC.ret ?_
          show retQ _ _ _ _ _ _ _ _
          refine retB3 ag.api_Operation (hp := Part.nil _) (hpost := ?_)
          rw [List.drop_eq_getElem_cons (by omega)] at hq
          rw [hq, Int.natCast_add]
          rfl
        · -- else_t74
          refine JC.skip ?_
          refine JC.rs ?_
          refine Seq.p rfl (Ev.ldBA (cs := o.enc) ag.api_Operation) ?_
          refine Seq.storeTo (cs' := o.enc) sz.api_Operation (hH := At.s (At.s At.z)) (hfit := Nat.le_of_ble_eq_true rfl) (hcs := rfl) (k := ?_)
          refine Seq.p rfl Ev.assign ?_
          refine Seq.p rfl Ev.assign ?_
          refine Seq.nil ?_
          refine JC.ret ?_
          show retQ _ _ _ _ _ _ _ _
          refine retB3 ag.api_Operation (hp := Part.nil _) (hpost := ?_)
          rw [List.drop_eq_nil_of_le (by omega)] at hq
          rw [hq]
          rfl
theorem refParseL {w : World} {F : List Int} (hB : isBytes F) (hl : F.length ≤ 281474976710656) : Spec Go.Proofs.Tryd.prog 6 #[.string (strOf F)] w [] (fun u _ => u = parseV (parseF F)) := by
  cases hs : shapeF (strOf (F.take (firstF 32 F))) with
  | none => exact refParseNone hB hl hs
  | some ks => exact refParseSome hB hl hs
end Go.Rx
/- Operators' lines printed by the program. -/
namespace Go.Rx
open Go Go.RowKit Go.Lib Go.Proofs.YtonoamdonmbkpaaDoor
set_option linter.unusedVariables false
set_option linter.unusedSimpArgs false
theorem bytes_back (s : ByteArray) : (bytesOf s).map (fun n => UInt8.ofNat n.toNat) = s.data.toList := by
  rw [← strOf_toList, strOf_bytes]
theorem join_words (o : Opn) (ks : List Fk) : (⟨(Lib.join ((o.word :: ks.map fun k => writeF k o).map (·.data.toList)) [32]).toArray⟩ : ByteArray) = strOf (wordsL o ks) := by
  rw [← strOf_mk]
  congr 2
  rw [List.map_cons, Lib.join_cons, wordsL, List.map_append, bytes_back]
  congr 1
  unfold Lib.joinTail tailL
  induction ks with
  | nil => rfl
  | cons k ks ih =>
    rw [List.map_cons, List.map_cons, List.map_cons, List.flatten_cons, List.flatMap_cons, List.map_append, List.map_cons, bytes_back, ← ih]
    try rfl
theorem itoa_size {n : Int} (h : -9223372036854775808 ≤ n ∧ n ≤ 9223372036854775807) : (⟨(itoa n).toArray⟩ : ByteArray).size ≤ 21 := by
  show (itoa n).toArray.size ≤ 21
  rw [List.size_toArray]
  unfold itoa
  split
  · have := dec_len (u := n.natAbs) (by omega)
    simp only [List.length_cons]
    omega
  · have := dec_len (u := n.toNat) (by omega)
    omega
theorem write_size {k : Fk} {o : Opn} (ho : OpnOk o) : (writeF k o).size ≤ 21 + o.name.size := by
  have hd : ∀ n : Int, 0 ≤ n → n ≤ 18446744073709551615 → (decS n.toNat).size ≤ 21 := fun n h1 h2 => by have := (decS_facts (n := n.toNat) (by omega)).2.1; omega
  obtain ⟨h1, h2, h3, h4, h5, h6, h7, h8⟩ := ho
  cases k
  case name => show o.name.size ≤ _; omega
  case price => have := itoa_size h2; show (⟨(itoa o.price).toArray⟩ : ByteArray).size ≤ _; omega
  case count => have := itoa_size h3; show (⟨(itoa o.count).toArray⟩ : ByteArray).size ≤ _; omega
  case lcount => have := itoa_size h6; show (⟨(itoa o.lcount).toArray⟩ : ByteArray).size ≤ _; omega
  case member => have := hd o.member (by omega) (by omega); show (decS o.member.toNat).size ≤ _; omega
  case ord => have := hd o.ord (by omega) (by omega); show (decS o.ord.toNat).size ≤ _; omega
  case opn => have := hd o.opn (by omega) (by omega); show (decS o.opn.toNat).size ≤ _; omega
  case pos => have := hd o.pos (by omega) (by omega); show (decS o.pos.toNat).size ≤ _; omega
  case worth => have := hd o.worth (by omega) (by omega); show (decS o.worth.toNat).size ≤ _; omega
theorem write_size2 {k : Fk} {o : Opn} (ho : OpnOk o) (hk : k ≠ .name) : (writeF k o).size ≤ 21 := by
  have h := write_size (k := k) (o := { o with name := ⟨#[]⟩ }) ⟨ho.member, ho.price, ho.count, ho.ord, ho.opn, ho.lcount, ho.pos, ho.worth⟩
  have e : writeF k { o with name := ⟨#[]⟩ } = writeF k o := by cases k <;> first | rfl | exact absurd rfl hk
  rw [e] at h
  have : (⟨#[]⟩ : ByteArray).size = 0 := rfl
  simp only at h
  omega
theorem words_len {o : Opn} {ks : List Fk} (ho : OpnOk o) (hs : shapeF o.word = some ks) : (wordsL o ks).length ≤ o.name.size + 200 := by
  have hw := (shape_size hs).1
  have hn : (writeF .name o).size = o.name.size := rfl
  have h2 : ∀ k, k ≠ .name → (bytesOf (writeF k o)).length ≤ 21 := fun k hk => by rw [bytesOf_length]; exact write_size2 ho hk
  have g1 := h2 .price (by decide)
  have g2 := h2 .member (by decide)
  have g3 := h2 .count (by decide)
  have g4 := h2 .ord (by decide)
  have g5 := h2 .opn (by decide)
  have g6 := h2 .lcount (by decide)
  have g7 := h2 .pos (by decide)
  have g8 := h2 .worth (by decide)
  have gn : (bytesOf (writeF .name o)).length = o.name.size := by rw [bytesOf_length]; rfl
  unfold wordsL tailL
  rw [List.length_append, bytesOf_length]
  rcases (shape_cases hs).1 with ⟨h | h | h | h | h, _⟩ | ⟨h, _⟩ <;> subst h <;> simp only [limK, List.flatMap_cons, List.flatMap_nil, List.length_append, List.length_cons, List.length_nil] <;> omega
theorem parse_zero : ∀ (ks : List Fk) (o : Opn) (R : List Int) (p : Nat), (parseK ks o R p).2.2 = 0 → (parseK ks o R p).2.1 = 0
  | [], o, [], p, _ => rfl
  | [], o, y :: R, p, h => by simp [parseK] at h
  | k :: ks, o, [], p, h => by simp [parseK] at h
  | k :: ks, o, y :: R, p, h => by
    simp only [parseK] at h ⊢
    cases hp : putF k o (R.take (firstF 32 R)) with
    | none => rw [hp] at h; simp at h
    | some o' => rw [hp] at h; exact parse_zero ks o' _ _ h
theorem parseF_zero {F : List Int} (h : (parseF F).2.2 = 0) : (parseF F).2.1 = 0 := by
  unfold parseF at h ⊢
  split
  · rename_i h2; rw [if_pos h2] at h; simp at h
  · rename_i h2
    rw [if_neg h2] at h
    cases hs : shapeF (strOf (F.take (firstF 32 F))) with
    | none => rfl
    | some ks => rw [hs] at h; exact parse_zero ks _ _ _ h
theorem parse_same {F : List Int} {o : Opn} : parseF F = (o, 0, 0) ↔ (parseF F).2.2 = 0 ∧ (parseF F).1 = o := by
  constructor
  · intro h; rw [h]; exact ⟨rfl, rfl⟩
  · rintro ⟨h1, h2⟩
    have h3 := parseF_zero h1
    exact Prod.ext h2 (Prod.ext h3 h1)
set_option maxHeartbeats 1000000 in
theorem conJoin {w w0 : World} {Cs H : List Chunk} {i : Nat} {v : Value} {x : ByteArray} {xs : List ByteArray} (hH : At H i (.own 9 1 v (x :: xs).length ((x :: xs).flatMap strEnc))) (hw : Upd w0 w Cs H) (hn : xs.length ≤ 100)
    (hlen : (Lib.join ((x :: xs).map (·.data.toList)) [32]).length ≤ 281474976710656) : Spec Go.Proofs.Tryd.prog 15 #[v, .string ⟨#[32]⟩] w [] (fun u _ => u = .string ⟨(Lib.join ((x :: xs).map (·.data.toList)) [32]).toArray⟩) := by
  have hr := RSl.owned (enc := strEnc) (xs := x :: xs) hH hw rfl rfl (fun _ => rfl) (by simp only [List.length_cons]; omega)
  have hok : OwnR w 9 1 v (x :: xs).length ((x :: xs).flatMap strEnc) := hH.ok hw
  rcases hok.2 with ⟨_, h0⟩ | ⟨g, off, cap, cur, fr, rfl, hg, hc, _⟩
  · simp at h0
  refine spec_of_below ⟨Go.Proofs.Tryd.f15, Go.Proofs.Tryd.func15, by kernel_rfl, rfl⟩ ?_
  refine Go.Proofs.Any.strings_Join_48 Go.Proofs.Tryd.lays156 Go.Proofs.Tryd.Builder_Extra_156 g off cap (x :: xs) ⟨#[32]⟩ w ?_ (Array.getElem?_eq_some_iff.1 hg).1 (by simp only [List.length_cons]; omega) hc hlen
  intro j y hy
  have hj := (List.getElem?_eq_some_iff.1 hy).1
  have h2 := (hr.cell j hj 0 (.string y) (by
    rw [getElem!_pos _ j hj]
    have := (List.getElem?_eq_some_iff.1 hy).2
    rw [this]
    rfl)).1
  have e : ((sbase (.slice (some ⟨g, off, none⟩) (x :: xs).length cap)).add (j * 1 + 0)) = ⟨g, off + j, none⟩ := by
    show Addr.add ⟨g, off, none⟩ (j * 1 + 0) = _
    by_cases h : j = 0
    · subst h; rfl
    · simp [Addr.add, h]
  rw [e] at h2
  exact h2
theorem conPrintNone {w : World} {o : Opn} (hs : shapeF o.word = none) : Spec Go.Proofs.Tryd.prog 7 #[.agg o.enc.toArray] w [] (fun u _ => u = .tuple #[.string (printF o).1, .int .i64 (printF o).2]) := by
  have hp : printF o = (⟨#[]⟩, 270) := by unfold printF; rw [hs]
  rw [hp]
  refine Spec.enter (fn := Go.Proofs.Tryd.f7) (n := 54) [.agg o.enc.toArray] Go.Proofs.Tryd.func7 (by kernel_rfl) rfl Go.Proofs.Tryd.ntmps7 Go.Proofs.Tryd.results7 rfl (Own.nil _) ?_
  refine JC.rs ?_
  refine Seq.box (cs := [_, _, _, _, _, _, _, _, _, _, _]) (k := ?_); intro b1
  refine Seq.p rfl Ev.assign ?_
  refine Seq.p rfl Ev.assign ?_
  refine Seq.nil ?_
  refine JC.rs ?_
  refine Seq.p rfl (Ev.faB fd.api_Operation_0) ?_
  refine Seq.p rfl (Ev.ldB sc.string) ?_
  refine Seq.callP rfl (fun w hw => conFieldsNone hs) ?_
  refine Seq.p rfl Ev.move ?_
  refine Seq.p rfl Ev.extract ?_
  refine Seq.p rfl Ev.extract ?_
  refine Seq.p rfl Ev.assign ?_
  refine Seq.p rfl Ev.assign ?_
  refine Seq.nil ?_
  refine JC.seq ?_
  refine JC.rs ?_
  refine Seq.p rfl Ev.move ?_
  refine Seq.p rfl Ev.not ?_
  refine Seq.nil ?_
  first | refine JC.c (ht := fun c20 => ?_) (hf := fun c20 => ?_) | refine JC.cb (ht := fun c20 => ?_) (hf := fun c20 => ?_)
  · -- then_t20
    refine JC.rs ?_
    refine Seq.p rfl Ev.assign ?_
    refine Seq.p rfl Ev.assign ?_
    refine Seq.nil ?_
    refine JC.ret ?_
    show retQ _ _ _ _ _ _ _ _
    refine ret2 (hp := Part.nil _) (hpost := ?_)
    rfl
  · -- else_t20
    simp at c20
set_option maxHeartbeats 4000000 in
set_option maxRecDepth 100000 in
theorem conPrintSome {w : World} {o : Opn} {ks : List Fk} (hs : shapeF o.word = some ks) (ho : OpnOk o) (hnm : o.name.size ≤ 140737488355328) (hL : Laid w) : Spec Go.Proofs.Tryd.prog 7 #[.agg o.enc.toArray] w [] (fun u _ => u = .tuple #[.string (printF o).1, .int .i64 (printF o).2]) := by
  have hksz := (shape_size hs).2
  have hwl := words_len ho hs
  have hwb := wordsL_bytes o ks
  have hjw := join_words o ks
  have hps := parse_same (F := wordsL o ks) (o := o)
  obtain ⟨PF, hPF⟩ : ∃ PF, PF = parseF (wordsL o ks) := ⟨_, rfl⟩
  have hpr : printF o = if PF.2.2 = 0 ∧ PF.1 = o then (strOf (wordsL o ks), 0) else (⟨#[]⟩, 270) := by
    unfold printF
    rw [hs]
    simp only
    by_cases h : parseF (wordsL o ks) = (o, 0, 0)
    · rw [if_pos h, if_pos (hPF ▸ hps.1 h)]
    · rw [if_neg h, if_neg (fun h2 => h (hps.2 (hPF ▸ h2)))]
  obtain ⟨po, pa, pe⟩ := PF
  simp only at hpr
  have hparse : ∀ w', Laid w' → Spec Go.Proofs.Tryd.prog 5 #[.string (strOf (wordsL o ks))] w' [] (fun u _ => u = .tuple #[.agg po.enc.toArray, .int .i64 pa, .int .i64 pe]) := fun w' hl => by
    have h := conParseL (w := w') hwb (by omega) hl
    rw [← hPF] at h
    exact h
  have hjl : (Lib.join ((o.word :: ks.map fun k => writeF k o).map (·.data.toList)) [32]).length ≤ 281474976710656 := by
    have h2 := congrArg ByteArray.size hjw
    rw [strOf_size] at h2
    have h3 : (⟨(Lib.join ((o.word :: ks.map fun k => writeF k o).map (·.data.toList)) [32]).toArray⟩ : ByteArray).size = (Lib.join ((o.word :: ks.map fun k => writeF k o).map (·.data.toList)) [32]).length := List.size_toArray
    omega
  rw [hpr]
  clear hpr hps
  refine Spec.enter (fn := Go.Proofs.Tryd.f7) (n := 54) [.agg o.enc.toArray] Go.Proofs.Tryd.func7 (by kernel_rfl) rfl Go.Proofs.Tryd.ntmps7 Go.Proofs.Tryd.results7 rfl (Own.nil _) ?_
  refine JC.rs ?_
  refine Seq.box (cs := [_, _, _, _, _, _, _, _, _, _, _]) (k := ?_); intro b1
  refine Seq.p rfl Ev.assign ?_
  refine Seq.p rfl Ev.assign ?_
  refine Seq.nil ?_
  refine JC.rs ?_
  refine Seq.p rfl (Ev.faB fd.api_Operation_0) ?_
  refine Seq.p rfl (Ev.ldB sc.string) ?_
  refine Seq.call rfl (fun w' hw => conFieldsSome hs) (Gs := []) (F := _) (by exact List.Perm.refl _) ?_
  rintro _ L ⟨v, ps, rfl, hfa⟩
  refine Seq.re (fun w h => h.perm List.perm_append_comm) ?_
  simp only [List.cons_append, List.nil_append]
  refine Seq.p rfl Ev.move ?_
  refine Seq.p rfl Ev.extract ?_
  refine Seq.p rfl Ev.extract ?_
  refine Seq.p rfl Ev.assign ?_
  refine Seq.p rfl Ev.assign ?_
  refine Seq.nil ?_
  refine JC.seq ?_
  refine JC.rs ?_
  refine Seq.p rfl Ev.move ?_
  refine Seq.p rfl Ev.not ?_
  refine Seq.nil ?_
  first | refine JC.c (ht := fun c20 => ?_) (hf := fun c20 => ?_) | refine JC.cb (ht := fun c20 => ?_) (hf := fun c20 => ?_)
  · -- then_t20
    simp at c20
  · -- else_t20
    refine JC.skip ?_
    refine JC.rs ?_
    refine Seq.p rfl (Ev.faB fd.api_Operation_0) ?_
    refine Seq.p rfl (Ev.ldB sc.string) ?_
    refine Seq.buildSlN [.string o.word] (hsl := sl.sl_string) (hz := z.string) (k := ?_); intro b23
    refine Seq.re (fun w h => Upd.boxOwn h (n := 1) (size := 1) At.z rfl (by omega)) ?_
    refine Seq.p rfl Ev.assign ?_
    refine Seq.nil ?_
    refine JC.seq ?_
    refine JC.rs ?_
    refine Seq.p rfl Ev.move ?_
    refine Seq.p rfl (Ev.lenSl sl.sl_console_field (hr := (fun w' hw => ⟨[], hfa.rd w' ((hw.part (by repeat (first | exact Part.refl _ | apply Part.skip))).own)⟩))) ?_
    refine Seq.p rfl Ev.move ?_
    refine Seq.nil ?_
    refine JC.blk ?_
    refine JC.loop (α := Nat) (I := fun j e1 H1 => ∃ A c, Has [6, 8, 26, 27, 28, 29, 30, 31, 32, 33, 34, 35, 36, 37] [(26, .int .i64 (j : Int)), (6, .slice A (o.word :: (ks.take j).map fun k => writeF k o).length c)] _ e1 ∧ H1 = .own 9 1 (.slice A (o.word :: (ks.take j).map fun k => writeF k o).length c) (o.word :: (ks.take j).map fun k => writeF k o).length ((o.word :: (ks.take j).map fun k => writeF k o).flatMap strEnc) :: .box b1 27 o.enc :: L ∧ j ≤ ks.length) (μ := fun j => ks.length - j) 0 ⟨_, _, Has.mk Off.refl (allLook_cons (by repeat (first | exact Look.here | apply Look.there (hne := rfl) | exact Look.const | apply Look.mix rfl | exact Look.arg0 | apply Look.args | exact Look.func)) (allLook_cons (by repeat (first | exact Look.here | apply Look.there (hne := rfl) | exact Look.const | apply Look.mix rfl | exact Look.arg0 | apply Look.args | exact Look.func)) allLook_nil)), rfl, Nat.zero_le _⟩ ?_
    rintro j _ _ ⟨A, c, ⟨u, rfl⟩, rfl, hj⟩; dsimp only [setL]
    refine JC.rs ?_
    refine Seq.p rfl Ev.lt ?_
    refine Seq.nil ?_
    refine JC.seq ?_
    first | refine JC.c (ht := fun c27 => ?_) (hf := fun c27 => ?_) | refine JC.cb (ht := fun c27 => ?_) (hf := fun c27 => ?_)
    · -- then_t27
      have hpsl := hfa.len
      have hj2 : j < ks.length := by omega
      obtain ⟨⟨f, cap, hf1, hf2⟩, g, cap2, hg1, hg2⟩ := hfa.ok j hj2
      have hps : ps[j]! = (.func (.func f) #[] cap.toArray, .func (.func g) #[] cap2.toArray) := Prod.ext hf1 hg1
      have hX : (o.word :: (ks.take (j + 1)).map fun k => writeF k o) = (o.word :: (ks.take j).map fun k => writeF k o) ++ [writeF ks[j]! o] := by
        rw [List.take_succ_eq_append_getElem hj2, List.map_append, getElem!_pos ks j hj2]
        rfl
      have hXl : (o.word :: (ks.take j).map fun k => writeF k o).length ≤ 7 := by simp only [List.length_cons, List.length_map, List.length_take]; omega
      obtain ⟨X, hXe⟩ : ∃ X, X = (o.word :: (ks.take j).map fun k => writeF k o) := ⟨_, rfl⟩
      rw [← hXe] at hX hXl ⊢
      refine JC.skip ?_
      refine JC.seq ?_
      refine JC.blk ?_
      refine JC.rs ?_
      refine Seq.p rfl (Ev.iaN sl.sl_console_field (hr := (fun w' hw => ⟨[], hfa.rd w' ((hw.part (by repeat (first | exact Part.refl _ | apply Part.skip))).own)⟩))) ?_
      refine Seq.p rfl (Ev.as (v := .agg (fldEnc ps[j]!).toArray) (v' := .agg #[.func (.func f) #[] cap.toArray, .func (.func g) #[] cap2.toArray]) (by rw [hps]; rfl) (Ev.ldEA ag.console_field (hr := (fun w' hw => ⟨[], hfa.rd w' ((hw.part (by repeat (first | exact Part.refl _ | apply Part.skip))).own)⟩)))) ?_
      refine Seq.alloc (cs := [_, _]) (hz := z.console_field) (k := ?_); intro b8
      refine Seq.storeN [_, _] sz.console_field (k := ?_)
      refine Seq.nil ?_
      refine JC.reg ?_
      refine Seq.p rfl Ev.move ?_
      refine Seq.p rfl (Ev.faB fd.console_field_1) ?_
      refine Seq.p rfl (Ev.ldB sc.func_api_Operation_string) ?_
      refine Seq.p rfl (Ev.ldBA (cs := o.enc) ag.api_Operation) ?_
      refine Seq.callvP (first := []) rfl rfl (fun w' hw => hg2 w' o ((hw.part (by repeat (first | exact Part.refl _ | apply Part.skip))).own) (hL.upd hw).t ho) ?_
      refine Seq.buildSlN [_] (hsl := sl.sl_string) (hz := z.string) (k := ?_); intro b35
      refine Seq.append (hsl := sl.sl_string) (he := el.string) (hsrc := (fun w' hw => Src.box (news := strEnc (writeF ks[j]! o)) sl.sl_string At.z hw rfl (fun q u hu => hu))) (k := ?_); intro A36 c36
      refine Seq.p rfl Ev.assign ?_
      refine Seq.nil ?_
      refine JC.reg ?_
      refine Seq.p rfl (by first | exact Ev.inc | exact Ev.add) ?_
      refine Seq.p rfl Ev.move ?_
      refine Seq.nil ?_
      refine ⟨j + 1, _, Part.skip (Part.skip (Part.refl _)), ⟨A36, c36, Has.mk (by repeat (first | refine Off.upd ?_ rfl | exact Off.mix | refine Off.mix2 ?_ rfl | exact Off.refl)) (allLook_cons (by repeat (first | exact Look.here | apply Look.there (hne := rfl) | exact Look.const | apply Look.mix rfl | exact Look.arg0 | apply Look.args | exact Look.func)) (allLook_cons (by rw [hX, List.length_append]; exact (by repeat (first | exact Look.here | apply Look.there (hne := rfl) | exact Look.const | apply Look.mix rfl | exact Look.arg0 | apply Look.args | exact Look.func))) allLook_nil)), ?_, by omega⟩, by omega⟩
      rw [hX]
      simp
    · -- else_t27
      have hpsl := hfa.len
      obtain rfl : j = ks.length := by omega
      rw [List.take_length]
      refine JC.exit ?_ -- 0
      refine JC.rs ?_
      refine Seq.p rfl Ev.move ?_
      refine Seq.callP rfl (fun w' hw => conJoin At.z hw (by rw [List.length_map]; omega) hjl) ?_
      rw [hjw]
      refine Seq.p rfl Ev.assign ?_
      refine Seq.nil ?_
      refine JC.seq ?_
      refine JC.rs ?_
      refine Seq.p rfl Ev.move ?_
      refine Seq.callP rfl (fun w' hw => hparse w' (hL.upd hw)) ?_
      refine Seq.p rfl Ev.move ?_
      refine Seq.p rfl Ev.extract ?_
      refine Seq.p rfl Ev.extract ?_
      refine Seq.p rfl Ev.extract ?_
      refine Seq.alloc (cs := [_, _, _, _, _, _, _, _, _, _, _]) (hz := z.api_Operation) (k := ?_); intro b10
      refine Seq.storeTo (cs' := po.enc) sz.api_Operation (hH := At.z) (hfit := Nat.le_of_ble_eq_true rfl) (hcs := rfl) (k := ?_)
      refine Seq.p rfl Ev.assign ?_
      refine Seq.p rfl Ev.assign ?_
      refine Seq.nil ?_
      refine JC.rs ?_
      refine Seq.p rfl Ev.move ?_
      refine Seq.p rfl Ev.ne ?_
      refine Seq.p rfl Ev.move ?_
      refine Seq.orG (D := [48, 49, 50, 51, 52]) (d := 48) (t := 52) (k := 4) (hn := fun h48 => ?_) (hx := ?_)
      · repeat (first | refine Seq.gn rfl rfl rfl rfl ?_ | refine Seq.gu rfl rfl rfl ?_)
        refine Seq.p rfl Ev.pickT ?_
        exact Seq.nil ⟨rfl, (by repeat (first | with_reducible exact Off.refl | refine Off.upd ?_ rfl | exact Off.mix | refine Off.mix2 ?_ rfl)), Look.here⟩
      apply Exists.intro
      refine ⟨fun h48 => ?_, fun u52 => ?_⟩
      · try simp only [decide_eq_true_eq, decide_eq_false_iff_not, Bool.and_eq_true, Bool.or_eq_true, Bool.not_eq_true', Bool.not_eq_false', Bool.or_eq_false_iff, Bool.and_eq_false_imp] at h48
        refine Seq.gy rfl rfl rfl ?_
        refine Seq.p rfl (Ev.ldBA (cs := po.enc) ag.api_Operation) ?_
        refine Seq.gy rfl rfl rfl ?_
        refine Seq.p rfl (Ev.ldBA (cs := o.enc) ag.api_Operation) ?_
        refine Seq.gy rfl rfl rfl ?_
        refine Seq.p rfl (Ev.as (v' := .bool (!(decide (po = o)))) (by rw [← Opn.eqL_enc]) (Ev.neAg (xs := po.enc) (ys := o.enc) so.api_Operation ag.api_Operation gd.api_Operation)) ?_
        refine Seq.p rfl Ev.pickF ?_
        exact Seq.nil ⟨rfl, (by repeat (first | with_reducible exact Off.refl | refine Off.upd ?_ rfl | exact Off.mix | refine Off.mix2 ?_ rfl)), Look.here⟩
      refine Seq.nil ?_
      first | refine JC.c (ht := fun c52 => ?_) (hf := fun c52 => ?_) | refine JC.cb (ht := fun c52 => ?_) (hf := fun c52 => ?_)
      · -- then_t52
        refine JC.rs ?_
        refine Seq.p rfl Ev.assign ?_
        refine Seq.p rfl Ev.assign ?_
        refine Seq.nil ?_
        refine JC.ret ?_
        show retQ _ _ _ _ _ _ _ _
        refine ret2 (hp := Part.nil _) (hpost := ?_)
        rw [if_neg (fun h => by rw [h.1, h.2] at c52; simp at c52)]
      · -- else_t52
        refine JC.skip ?_
        refine JC.rs ?_
        refine Seq.p rfl Ev.move ?_
        refine Seq.p rfl Ev.assign ?_
        refine Seq.p rfl Ev.assign ?_
        refine Seq.nil ?_
        refine JC.ret ?_
        show retQ _ _ _ _ _ _ _ _
        refine ret2 (hp := Part.nil _) (hpost := ?_)
        rw [if_pos (by simpa using c52)]
theorem conPrint {w : World} {o : Opn} (ho : OpnOk o) (hnm : o.name.size ≤ 140737488355328) (hL : Laid w) : Spec Go.Proofs.Tryd.prog 7 #[.agg o.enc.toArray] w [] (fun u _ => u = .tuple #[.string (printF o).1, .int .i64 (printF o).2]) := by
  cases hs : shapeF o.word with
  | none => exact conPrintNone hs
  | some ks => exact conPrintSome hs ho hnm hL
end Go.Rx
/- Operators' lines printed by the document. -/
namespace Go.Rx
open Go Go.RowKit Go.Lib Go.Proofs.YtonoamdonmbkpaaDoor
set_option linter.unusedVariables false
set_option linter.unusedSimpArgs false
theorem look_as {e : Env} {x : Operand} {v v' : Value} (h : Look e x v) (hv : v = v') : Look e x v' := hv ▸ h
theorem wrap_mod (a : Int) : IntKind.i64.wrap a % 18446744073709551616 = a % 18446744073709551616 := by
  simp only [IntKind.wrap, IntKind.bits, IntKind.signed]
  simp
  split <;> omega
theorem wordsR_snoc {o : Opn} {ks : List Fk} {j : Nat} (hj : j < ks.length) : strOf (wordsR o (ks.take (j + 1))) = strOf (wordsR o (ks.take j)) ++ ⟨#[32]⟩ ++ writeR ks[j]! o := by
  have e32 : (⟨#[32]⟩ : ByteArray) = strOf [32] := rfl
  rw [e32, ← strOf_app]
  have e2 : writeR ks[j]! o = strOf (bytesOf (writeR ks[j]! o)) := (strOf_bytes _).symm
  rw [e2, ← strOf_app]
  congr 1
  unfold wordsR tailR
  rw [List.take_succ_eq_append_getElem hj, List.flatMap_append, getElem!_pos ks j hj]
  simp
theorem writeR_size {k : Fk} {o : Opn} (ho : OpnOk o) : (writeR k o).size ≤ 21 + o.name.size := by
  have hd : ∀ z : Int, (decS (z % 18446744073709551616).toNat).size ≤ 21 := fun z => by have := (decS_facts (n := (z % 18446744073709551616).toNat) (by omega)).2.1; omega
  cases k
  case price => have := hd o.price; show (decS (o.price % 18446744073709551616).toNat).size ≤ _; omega
  case count => have := hd (o.count + o.lcount); show (decS ((o.count + o.lcount) % 18446744073709551616).toNat).size ≤ _; omega
  case lcount => have := hd o.lcount; show (decS (o.lcount % 18446744073709551616).toNat).size ≤ _; omega
  case name => exact write_size (k := .name) ho
  case member => exact write_size (k := .member) ho
  case ord => exact write_size (k := .ord) ho
  case opn => exact write_size (k := .opn) ho
  case pos => exact write_size (k := .pos) ho
  case worth => exact write_size (k := .worth) ho
theorem wordsR_len {o : Opn} {ks : List Fk} (ho : OpnOk o) : (wordsR o ks).length ≤ o.word.size + ks.length * (22 + o.name.size) := by
  unfold wordsR tailR
  rw [List.length_append, bytesOf_length]
  induction ks with
  | nil => simp
  | cons k ks ih =>
    have := writeR_size (k := k) ho
    rw [List.flatMap_cons, List.length_append, List.length_cons, bytesOf_length, List.length_cons, Nat.add_mul]
    omega
theorem wordsR_bytes (o : Opn) (ks : List Fk) : isBytes (wordsR o ks) := by
  intro n hn
  unfold wordsR tailR at hn
  rcases List.mem_append.1 hn with h | h
  · exact bytesOf_range _ n h
  · obtain ⟨k, _, h⟩ := List.mem_flatMap.1 h
    rcases List.mem_cons.1 h with rfl | h
    · decide
    · exact bytesOf_range _ n h
theorem refPrintNone {w : World} {o : Opn} (hs : shapeF o.word = none) : Spec Go.Proofs.Tryd.prog 8 #[.agg o.enc.toArray] w [] (fun u _ => u = .tuple #[.string (printR o).1, .int .i64 (printR o).2]) := by
  have hp : printR o = (⟨#[]⟩, 270) := by unfold printR; rw [hs]
  rw [hp]
  refine Spec.enter (fn := Go.Proofs.Tryd.f8) (n := 130) [.agg o.enc.toArray] Go.Proofs.Tryd.func8 (by kernel_rfl) rfl Go.Proofs.Tryd.ntmps8 Go.Proofs.Tryd.results8 rfl (Own.nil _) ?_
  refine JC.rs ?_
  refine Seq.box (cs := [_, _, _, _, _, _, _, _, _, _, _]) (k := ?_); intro b1
  refine Seq.p rfl Ev.assign ?_
  refine Seq.p rfl Ev.assign ?_
  refine Seq.nil ?_
  refine JC.rs ?_
  refine Seq.p rfl (Ev.faB fd.api_Operation_0) ?_
  refine Seq.p rfl (Ev.ldB sc.string) ?_
  refine Seq.callP rfl (fun w hw => refShapeNone hs) ?_
  refine Seq.p rfl Ev.move ?_
  refine Seq.p rfl Ev.extract ?_
  refine Seq.p rfl Ev.extract ?_
  refine Seq.p rfl Ev.assign ?_
  refine Seq.p rfl Ev.assign ?_
  refine Seq.nil ?_
  refine JC.seq ?_
  refine JC.rs ?_
  refine Seq.p rfl Ev.move ?_
  refine Seq.p rfl Ev.not ?_
  refine Seq.p rfl Ev.move ?_
  refine Seq.orG (D := [20, 21, 22, 23, 24]) (d := 20) (t := 24) (k := 4) (hn := fun h20 => ?_) (hx := ?_)
  · repeat (first | refine Seq.gn rfl rfl rfl rfl ?_ | refine Seq.gu rfl rfl rfl ?_)
    refine Seq.p rfl Ev.pickT ?_
    exact Seq.nil ⟨rfl, (by repeat (first | with_reducible exact Off.refl | refine Off.upd ?_ rfl | exact Off.mix | refine Off.mix2 ?_ rfl)), Look.here⟩
  apply Exists.intro
  refine ⟨fun h20 => ?_, fun u24 => ?_⟩
  · try simp only [decide_eq_true_eq, decide_eq_false_iff_not, Bool.and_eq_true, Bool.or_eq_true, Bool.not_eq_true', Bool.not_eq_false', Bool.or_eq_false_iff, Bool.and_eq_false_imp] at h20
    refine Seq.gy rfl rfl rfl ?_
    refine Seq.p rfl (Ev.faB fd.api_Operation_3) ?_
    refine Seq.gy rfl rfl rfl ?_
    refine Seq.p rfl (Ev.ldB sc.int) ?_
    refine Seq.gy rfl rfl rfl ?_
    refine Seq.p rfl Ev.lt ?_
    refine Seq.p rfl Ev.pickF ?_
    exact Seq.nil ⟨rfl, (by repeat (first | with_reducible exact Off.refl | refine Off.upd ?_ rfl | exact Off.mix | refine Off.mix2 ?_ rfl)), Look.here⟩
  refine Seq.p rfl Ev.move ?_
  refine Seq.orG (D := [25, 26, 27, 28, 29]) (d := 25) (t := 29) (k := 4) (hn := fun h25 => ?_) (hx := ?_)
  · repeat (first | refine Seq.gn rfl rfl rfl rfl ?_ | refine Seq.gu rfl rfl rfl ?_)
    refine Seq.p rfl Ev.pickT ?_
    exact Seq.nil ⟨rfl, (by repeat (first | with_reducible exact Off.refl | refine Off.upd ?_ rfl | exact Off.mix | refine Off.mix2 ?_ rfl)), Look.here⟩
  apply Exists.intro
  refine ⟨fun h25 => ?_, fun u29 => ?_⟩
  · try simp only [decide_eq_true_eq, decide_eq_false_iff_not, Bool.and_eq_true, Bool.or_eq_true, Bool.not_eq_true', Bool.not_eq_false', Bool.or_eq_false_iff, Bool.and_eq_false_imp] at h25
    refine Seq.gy rfl rfl rfl ?_
    refine Seq.p rfl (Ev.faB fd.api_Operation_4) ?_
    refine Seq.gy rfl rfl rfl ?_
    refine Seq.p rfl (Ev.ldB sc.int) ?_
    refine Seq.gy rfl rfl rfl ?_
    refine Seq.p rfl Ev.lt ?_
    refine Seq.p rfl Ev.pickF ?_
    exact Seq.nil ⟨rfl, (by repeat (first | with_reducible exact Off.refl | refine Off.upd ?_ rfl | exact Off.mix | refine Off.mix2 ?_ rfl)), Look.here⟩
  refine Seq.p rfl Ev.move ?_
  refine Seq.orG (D := [30, 31, 32, 33, 34, 35]) (d := 30) (t := 35) (k := 5) (hn := fun h30 => ?_) (hx := ?_)
  · repeat (first | refine Seq.gn rfl rfl rfl rfl ?_ | refine Seq.gu rfl rfl rfl ?_)
    refine Seq.p rfl Ev.pickT ?_
    exact Seq.nil ⟨rfl, (by repeat (first | with_reducible exact Off.refl | refine Off.upd ?_ rfl | exact Off.mix | refine Off.mix2 ?_ rfl)), Look.here⟩
  apply Exists.intro
  refine ⟨fun h30 => ?_, fun u35 => ?_⟩
  · try simp only [decide_eq_true_eq, decide_eq_false_iff_not, Bool.and_eq_true, Bool.or_eq_true, Bool.not_eq_true', Bool.not_eq_false', Bool.or_eq_false_iff, Bool.and_eq_false_imp] at h30
    refine Seq.gy rfl rfl rfl ?_
    refine Seq.p rfl (Ev.faB fd.api_Operation_5) ?_
    refine Seq.gy rfl rfl rfl ?_
    refine Seq.p rfl (Ev.faB fd.api_Limits_2) ?_
    refine Seq.gy rfl rfl rfl ?_
    refine Seq.p rfl (Ev.ldB sc.int) ?_
    refine Seq.gy rfl rfl rfl ?_
    refine Seq.p rfl Ev.lt ?_
    refine Seq.p rfl Ev.pickF ?_
    exact Seq.nil ⟨rfl, (by repeat (first | with_reducible exact Off.refl | refine Off.upd ?_ rfl | exact Off.mix | refine Off.mix2 ?_ rfl)), Look.here⟩
  refine Seq.p rfl Ev.move ?_
  refine Seq.orG (D := [36, 37, 38, 39, 40, 41]) (d := 36) (t := 41) (k := 5) (hn := fun h36 => ?_) (hx := ?_)
  · repeat (first | refine Seq.gn rfl rfl rfl rfl ?_ | refine Seq.gu rfl rfl rfl ?_)
    refine Seq.p rfl Ev.pickT ?_
    exact Seq.nil ⟨rfl, (by repeat (first | with_reducible exact Off.refl | refine Off.upd ?_ rfl | exact Off.mix | refine Off.mix2 ?_ rfl)), Look.here⟩
  apply Exists.intro
  refine ⟨fun h36 => ?_, fun u41 => ?_⟩
  · try simp only [decide_eq_true_eq, decide_eq_false_iff_not, Bool.and_eq_true, Bool.or_eq_true, Bool.not_eq_true', Bool.not_eq_false', Bool.or_eq_false_iff, Bool.and_eq_false_imp] at h36
    refine Seq.gy rfl rfl rfl ?_
    refine Seq.p rfl (Ev.faB fd.api_Operation_1) ?_
    refine Seq.gy rfl rfl rfl ?_
    refine Seq.p rfl (Ev.ldB sc.string) ?_
    refine Seq.gy rfl rfl rfl ?_
    refine Seq.p rfl (Ev.lenStr st.string) ?_
    refine Seq.gy rfl rfl rfl ?_
    refine Seq.p rfl Ev.gt ?_
    refine Seq.p rfl Ev.pickF ?_
    exact Seq.nil ⟨rfl, (by repeat (first | with_reducible exact Off.refl | refine Off.upd ?_ rfl | exact Off.mix | refine Off.mix2 ?_ rfl)), Look.here⟩
  refine Seq.nil ?_
  first | refine JC.c (ht := fun c41 => ?_) (hf := fun c41 => ?_) | refine JC.cb (ht := fun c41 => ?_) (hf := fun c41 => ?_)
  · -- then_t41
    refine JC.rs ?_
    refine Seq.p rfl Ev.assign ?_
    refine Seq.p rfl Ev.assign ?_
    refine Seq.nil ?_
    refine JC.ret ?_
    show retQ _ _ _ _ _ _ _ _
    refine ret2 (hp := Part.nil _) (hpost := ?_)
    rfl
  · -- else_t41
    simp at c41
set_option maxHeartbeats 4000000 in
set_option maxRecDepth 100000 in
theorem refPrintSome {w : World} {o : Opn} {ks : List Fk} (hs : shapeF o.word = some ks) (ho : OpnOk o) (hnm : o.name.size ≤ 140737488355328) : Spec Go.Proofs.Tryd.prog 8 #[.agg o.enc.toArray] w [] (fun u _ => u = .tuple #[.string (printR o).1, .int .i64 (printR o).2]) := by
  have hksz := (shape_size hs).2
  have hwz := (shape_size hs).1
  have hps := parse_same (F := wordsR o ks) (o := o)
  obtain ⟨PF, hPF⟩ : ∃ PF, PF = parseF (wordsR o ks) := ⟨_, rfl⟩
  have hpr : printR o = if refBad o then (⟨#[]⟩, 270) else if PF.2.2 = 0 ∧ PF.1 = o then (strOf (wordsR o ks), 0) else (⟨#[]⟩, 270) := by
    unfold printR
    rw [hs]
    simp only
    by_cases h : parseF (wordsR o ks) = (o, 0, 0)
    · rw [if_pos h, if_pos (c := PF.2.2 = 0 ∧ PF.1 = o) (hPF ▸ hps.1 h)]
    · rw [if_neg h, if_neg (c := PF.2.2 = 0 ∧ PF.1 = o) (fun h2 => h (hps.2 (hPF ▸ h2)))]
  obtain ⟨po, pa, pe⟩ := PF
  simp only at hpr
  have hparse : (wordsR o ks).length ≤ 281474976710656 → ∀ w', Spec Go.Proofs.Tryd.prog 6 #[.string (strOf (wordsR o ks))] w' [] (fun u _ => u = .tuple #[.agg po.enc.toArray, .int .i64 pa, .int .i64 pe]) := fun hl w' => by
    have h := refParseL (w := w') (wordsR_bytes o ks) hl
    rw [← hPF] at h
    exact h
  obtain ⟨K, hK⟩ : ∃ K, K = ks.map kstr := ⟨_, rfl⟩
  have hKl : K.length = ks.length := by rw [hK, List.length_map]
  have hKg : ∀ j, j < ks.length → K[j]! = kstr ks[j]! := fun j hj => by
    rw [getElem!_pos K j (by omega), getElem!_pos ks j hj]
    subst hK
    exact List.getElem_map ..
  obtain ⟨mn, hmn⟩ : ∃ n : Nat, o.member = (n : Int) := ⟨o.member.toNat, by have := ho.member; omega⟩
  obtain ⟨on, hon⟩ : ∃ n : Nat, o.ord = (n : Int) := ⟨o.ord.toNat, by have := ho.ord; omega⟩
  obtain ⟨pn, hpn⟩ : ∃ n : Nat, o.opn = (n : Int) := ⟨o.opn.toNat, by have := ho.opn; omega⟩
  obtain ⟨sn, hsn⟩ : ∃ n : Nat, o.pos = (n : Int) := ⟨o.pos.toNat, by have := ho.pos; omega⟩
  obtain ⟨wn, hwn⟩ : ∃ n : Nat, o.worth = (n : Int) := ⟨o.worth.toNat, by have := ho.worth; omega⟩
  have hb1 := ho.member
  have hb2 := ho.ord
  have hb3 := ho.opn
  have hb4 := ho.pos
  have hb5 := ho.worth
  rw [hpr]
  clear hpr hps
  refine Spec.enter (fn := Go.Proofs.Tryd.f8) (n := 130) [.agg o.enc.toArray] Go.Proofs.Tryd.func8 (by kernel_rfl) rfl Go.Proofs.Tryd.ntmps8 Go.Proofs.Tryd.results8 rfl (Own.nil _) ?_
  refine JC.rs ?_
  refine Seq.box (cs := [_, _, _, _, _, _, _, _, _, _, _]) (k := ?_); intro b1
  refine Seq.p rfl Ev.assign ?_
  refine Seq.p rfl Ev.assign ?_
  refine Seq.nil ?_
  refine JC.rs ?_
  refine Seq.p rfl (Ev.faB fd.api_Operation_0) ?_
  refine Seq.p rfl (Ev.ldB sc.string) ?_
  refine Seq.call rfl (fun w' hw => refShapeSome hs hK) (Gs := []) (F := _) (by exact List.Perm.refl _) ?_
  rintro _ _ ⟨A, c, rfl, rfl⟩
  simp only [List.cons_append, List.nil_append]
  refine Seq.p rfl Ev.move ?_
  refine Seq.p rfl Ev.extract ?_
  refine Seq.p rfl Ev.extract ?_
  refine Seq.p rfl Ev.assign ?_
  refine Seq.p rfl Ev.assign ?_
  refine Seq.nil ?_
  refine JC.seq ?_
  refine JC.rs ?_
  refine Seq.p rfl Ev.move ?_
  refine Seq.p rfl Ev.not ?_
  refine Seq.p rfl Ev.move ?_
  refine Seq.orG (D := [20, 21, 22, 23, 24]) (d := 20) (t := 24) (k := 4) (hn := fun h20 => ?_) (hx := ?_)
  · repeat (first | refine Seq.gn rfl rfl rfl rfl ?_ | refine Seq.gu rfl rfl rfl ?_)
    refine Seq.p rfl Ev.pickT ?_
    exact Seq.nil ⟨rfl, (by repeat (first | with_reducible exact Off.refl | refine Off.upd ?_ rfl | exact Off.mix | refine Off.mix2 ?_ rfl)), Look.here⟩
  apply Exists.intro
  refine ⟨fun h20 => ?_, fun u24 => ?_⟩
  · try simp only [decide_eq_true_eq, decide_eq_false_iff_not, Bool.and_eq_true, Bool.or_eq_true, Bool.not_eq_true', Bool.not_eq_false', Bool.or_eq_false_iff, Bool.and_eq_false_imp] at h20
    refine Seq.gy rfl rfl rfl ?_
    refine Seq.p rfl (Ev.faB fd.api_Operation_3) ?_
    refine Seq.gy rfl rfl rfl ?_
    refine Seq.p rfl (Ev.ldB sc.int) ?_
    refine Seq.gy rfl rfl rfl ?_
    refine Seq.p rfl Ev.lt ?_
    refine Seq.p rfl Ev.pickF ?_
    exact Seq.nil ⟨rfl, (by repeat (first | with_reducible exact Off.refl | refine Off.upd ?_ rfl | exact Off.mix | refine Off.mix2 ?_ rfl)), Look.here⟩
  refine Seq.p rfl Ev.move ?_
  refine Seq.orG (D := [25, 26, 27, 28, 29]) (d := 25) (t := 29) (k := 4) (hn := fun h25 => ?_) (hx := ?_)
  · repeat (first | refine Seq.gn rfl rfl rfl rfl ?_ | refine Seq.gu rfl rfl rfl ?_)
    refine Seq.p rfl Ev.pickT ?_
    exact Seq.nil ⟨rfl, (by repeat (first | with_reducible exact Off.refl | refine Off.upd ?_ rfl | exact Off.mix | refine Off.mix2 ?_ rfl)), Look.here⟩
  apply Exists.intro
  refine ⟨fun h25 => ?_, fun u29 => ?_⟩
  · try simp only [decide_eq_true_eq, decide_eq_false_iff_not, Bool.and_eq_true, Bool.or_eq_true, Bool.not_eq_true', Bool.not_eq_false', Bool.or_eq_false_iff, Bool.and_eq_false_imp] at h25
    refine Seq.gy rfl rfl rfl ?_
    refine Seq.p rfl (Ev.faB fd.api_Operation_4) ?_
    refine Seq.gy rfl rfl rfl ?_
    refine Seq.p rfl (Ev.ldB sc.int) ?_
    refine Seq.gy rfl rfl rfl ?_
    refine Seq.p rfl Ev.lt ?_
    refine Seq.p rfl Ev.pickF ?_
    exact Seq.nil ⟨rfl, (by repeat (first | with_reducible exact Off.refl | refine Off.upd ?_ rfl | exact Off.mix | refine Off.mix2 ?_ rfl)), Look.here⟩
  refine Seq.p rfl Ev.move ?_
  refine Seq.orG (D := [30, 31, 32, 33, 34, 35]) (d := 30) (t := 35) (k := 5) (hn := fun h30 => ?_) (hx := ?_)
  · repeat (first | refine Seq.gn rfl rfl rfl rfl ?_ | refine Seq.gu rfl rfl rfl ?_)
    refine Seq.p rfl Ev.pickT ?_
    exact Seq.nil ⟨rfl, (by repeat (first | with_reducible exact Off.refl | refine Off.upd ?_ rfl | exact Off.mix | refine Off.mix2 ?_ rfl)), Look.here⟩
  apply Exists.intro
  refine ⟨fun h30 => ?_, fun u35 => ?_⟩
  · try simp only [decide_eq_true_eq, decide_eq_false_iff_not, Bool.and_eq_true, Bool.or_eq_true, Bool.not_eq_true', Bool.not_eq_false', Bool.or_eq_false_iff, Bool.and_eq_false_imp] at h30
    refine Seq.gy rfl rfl rfl ?_
    refine Seq.p rfl (Ev.faB fd.api_Operation_5) ?_
    refine Seq.gy rfl rfl rfl ?_
    refine Seq.p rfl (Ev.faB fd.api_Limits_2) ?_
    refine Seq.gy rfl rfl rfl ?_
    refine Seq.p rfl (Ev.ldB sc.int) ?_
    refine Seq.gy rfl rfl rfl ?_
    refine Seq.p rfl Ev.lt ?_
    refine Seq.p rfl Ev.pickF ?_
    exact Seq.nil ⟨rfl, (by repeat (first | with_reducible exact Off.refl | refine Off.upd ?_ rfl | exact Off.mix | refine Off.mix2 ?_ rfl)), Look.here⟩
  refine Seq.p rfl Ev.move ?_
  refine Seq.orG (D := [36, 37, 38, 39, 40, 41]) (d := 36) (t := 41) (k := 5) (hn := fun h36 => ?_) (hx := ?_)
  · repeat (first | refine Seq.gn rfl rfl rfl rfl ?_ | refine Seq.gu rfl rfl rfl ?_)
    refine Seq.p rfl Ev.pickT ?_
    exact Seq.nil ⟨rfl, (by repeat (first | with_reducible exact Off.refl | refine Off.upd ?_ rfl | exact Off.mix | refine Off.mix2 ?_ rfl)), Look.here⟩
  apply Exists.intro
  refine ⟨fun h36 => ?_, fun u41 => ?_⟩
  · try simp only [decide_eq_true_eq, decide_eq_false_iff_not, Bool.and_eq_true, Bool.or_eq_true, Bool.not_eq_true', Bool.not_eq_false', Bool.or_eq_false_iff, Bool.and_eq_false_imp] at h36
    refine Seq.gy rfl rfl rfl ?_
    refine Seq.p rfl (Ev.faB fd.api_Operation_1) ?_
    refine Seq.gy rfl rfl rfl ?_
    refine Seq.p rfl (Ev.ldB sc.string) ?_
    refine Seq.gy rfl rfl rfl ?_
    refine Seq.p rfl (Ev.lenStr st.string) ?_
    refine Seq.gy rfl rfl rfl ?_
    refine Seq.p rfl Ev.gt ?_
    refine Seq.p rfl Ev.pickF ?_
    exact Seq.nil ⟨rfl, (by repeat (first | with_reducible exact Off.refl | refine Off.upd ?_ rfl | exact Off.mix | refine Off.mix2 ?_ rfl)), Look.here⟩
  refine Seq.nil ?_
  first | refine JC.c (ht := fun c41 => ?_) (hf := fun c41 => ?_) | refine JC.cb (ht := fun c41 => ?_) (hf := fun c41 => ?_)
  · -- then_t41
    have hbad : refBad o := by
      simp only [Bool.not_true, Bool.false_or, Bool.or_eq_true, decide_eq_true_eq] at c41
      unfold refBad
      omega
    refine JC.rs ?_
    refine Seq.p rfl Ev.assign ?_
    refine Seq.p rfl Ev.assign ?_
    refine Seq.nil ?_
    refine JC.ret ?_
    show retQ _ _ _ _ _ _ _ _
    refine ret2 (hp := Part.nil _) (hpost := ?_)
    rw [if_pos hbad]
  · -- else_t41
    have hbad : ¬ refBad o := by
      simp only [Bool.not_true, Bool.false_or, Bool.or_eq_false_iff, decide_eq_false_iff_not] at c41
      unfold refBad
      omega
    rw [if_neg hbad]
    have hn8 : o.name.size ≤ 8 := by unfold refBad at hbad; omega
    have hRl : ∀ j, (wordsR o (ks.take j)).length ≤ 7 + 6 * 30 := fun j => by
      have h := wordsR_len (ks := ks.take j) ho
      have h2 : (ks.take j).length ≤ 6 := by rw [List.length_take]; omega
      have h3 : (ks.take j).length * (22 + o.name.size) ≤ 6 * 30 := Nat.mul_le_mul h2 (by omega)
      omega
    have hwsz : ∀ k, (writeR k o).size ≤ 29 := fun k => by have := writeR_size (k := k) ho; omega
    refine JC.skip ?_
    refine JC.rs ?_
    refine Seq.p rfl (Ev.faB fd.api_Operation_0) ?_
    refine Seq.p rfl (Ev.ldB sc.string) ?_
    refine Seq.p rfl Ev.assign ?_
    refine Seq.nil ?_
    refine JC.seq ?_
    refine JC.rs ?_
    refine Seq.p rfl Ev.assign ?_
    refine Seq.nil ?_
    refine JC.blk ?_
    refine JC.loop (α := Nat) (I := fun j e1 H1 => Has [6, 7, 8, 44, 45, 46, 47, 48, 49, 50, 51, 52, 53, 54, 55, 56, 57, 58, 59, 60, 61, 62, 63, 64, 65, 66, 67, 68, 69, 70, 71, 72, 73, 74, 75, 76, 77, 78, 79, 80, 81, 82, 83, 84, 85, 86, 87, 88, 89, 90, 91, 92, 93, 94, 95, 96, 97, 98, 99, 100, 101, 102, 103, 104, 105, 106, 107, 108, 109, 110, 111, 112, 113, 114, 115] [(7, .int .i64 (j : Int)), (6, .string (strOf (wordsR o (ks.take j))))] _ e1 ∧ H1 = [.own 9 1 (.slice A K.length c) K.length (K.flatMap strEnc), .box b1 27 o.enc] ∧ j ≤ ks.length) (μ := fun j => ks.length - j) 0 ⟨Has.mk Off.refl (allLook_cons (by repeat (first | exact Look.here | apply Look.there (hne := rfl) | exact Look.const | apply Look.mix rfl | exact Look.arg0 | apply Look.args | exact Look.func)) (allLook_cons (look_as (by repeat (first | exact Look.here | apply Look.there (hne := rfl) | exact Look.const | apply Look.mix rfl | exact Look.arg0 | apply Look.args | exact Look.func)) (by show Value.string o.word = Value.string (strOf (bytesOf o.word ++ [])); rw [List.append_nil, strOf_bytes])) allLook_nil)), rfl, Nat.zero_le _⟩ ?_
    rintro j _ _ ⟨⟨u, rfl⟩, rfl, hj⟩; dsimp only [setL]
    refine JC.seq ?_
    refine JC.rs ?_
    refine Seq.p rfl Ev.move ?_
    refine Seq.p rfl Ev.move ?_
    refine Seq.p rfl (Ev.lenSl sl.sl_string (hr := RAt.own (enc := strEnc) (v := .slice A K.length c) (xs := K) (hs := by omega))) ?_
    refine Seq.p rfl Ev.lt ?_
    refine Seq.nil ?_
    first | refine JC.c (ht := fun c47 => ?_) (hf := fun c47 => ?_) | refine JC.cb (ht := fun c47 => ?_) (hf := fun c47 => ?_)
    · -- then_t47
      have hj2 : j < ks.length := by omega
      have hR := hRl j
      obtain ⟨hi1, hi2, hi3, hi4⟩ := lim_idx hs hj2
      have hkj := hKg j hj2
      have hsnoc := wordsR_snoc (o := o) hj2
      obtain ⟨k, hk⟩ : ∃ k, k = ks[j]! := ⟨_, rfl⟩
      rw [← hk] at hi1 hi2 hi3 hi4 hkj hsnoc
      have hwk := hwsz k
      have hsz : (strOf (wordsR o (ks.take j))).size ≤ 187 := by rw [strOf_size]; omega
      obtain ⟨S, hS⟩ : ∃ S, S = strOf (wordsR o (ks.take j)) := ⟨_, rfl⟩
      rw [← hS] at hsz hsnoc ⊢
      refine JC.skip ?_
      refine JC.seq ?_
      refine JC.blk ?_
      refine JC.rs ?_
      refine Seq.p rfl Ev.assign ?_
      refine Seq.nil ?_
      refine JC.seq ?_
      refine JC.rs ?_
      refine Seq.p rfl Ev.move ?_
      refine Seq.p rfl Ev.move ?_
      refine Seq.p rfl (Ev.iaN sl.sl_string (hr := RAt.own (enc := strEnc) (v := .slice A K.length c) (xs := K) (hs := by omega))) ?_
      refine Seq.p rfl (Ev.as (v := .string K[j]!) (v' := .string (kstr k)) (by rw [hkj]) (Ev.ldE1 sc.string (hr := RAt.own (enc := strEnc) (v := .slice A K.length c) (xs := K) (hs := by omega)))) ?_
      refine Seq.nil ?_
      refine JC.blk ?_
      refine JC.rs ?_
      refine Seq.p rfl Ev.eqStr ?_
      refine Seq.p rfl Ev.assign ?_
      refine Seq.nil ?_
      first | refine JC.c (ht := fun c54 => ?_) (hf := fun c54 => ?_) | refine JC.cb (ht := fun c54 => ?_) (hf := fun c54 => ?_)
      · -- then_t54
        obtain rfl : k = .name := by cases k <;> first | rfl | exact absurd c54 (by decide)
        refine JC.reg ?_
        refine Seq.p rfl (Ev.faB fd.api_Operation_1) ?_
        refine Seq.p rfl (Ev.ldB sc.string) ?_
        refine Seq.p rfl Ev.assign ?_
        refine Seq.nil ?_
        refine JC.reg ?_
        refine Seq.p rfl Ev.move ?_
        refine Seq.p rfl (Ev.addStr (h := by show S.size + 1 ≤ _; omega)) ?_
        refine Seq.p rfl Ev.move ?_
        have hz1 : (S ++ (⟨#[32]⟩ : ByteArray)).size = S.size + 1 := by rw [ByteArray.size_append]; rfl
        simp only [writeR, writeF, hmn, hon, hpn, hsn, hwn, Int.toNat_natCast] at hwk hsnoc
        refine Seq.p rfl (Ev.addStr (h := by rw [hz1]; omega)) ?_
        refine Seq.p rfl Ev.assign ?_
        refine Seq.nil ?_
        refine JC.reg ?_
        refine Seq.p rfl Ev.move ?_
        refine Seq.p rfl (by first | exact Ev.inc | exact Ev.add) ?_
        refine Seq.p rfl Ev.assign ?_
        refine Seq.nil ?_
        refine ⟨j + 1, _, Part.refl _, ⟨Has.mk (by repeat (first | refine Off.upd ?_ rfl | exact Off.mix | refine Off.mix2 ?_ rfl | exact Off.refl)) (allLook_cons (by repeat (first | exact Look.here | apply Look.there (hne := rfl) | exact Look.const | apply Look.mix rfl | exact Look.arg0 | apply Look.args | exact Look.func)) (allLook_cons (by rw [hsnoc]; exact (by repeat (first | exact Look.here | apply Look.there (hne := rfl) | exact Look.const | apply Look.mix rfl | exact Look.arg0 | apply Look.args | exact Look.func))) allLook_nil)), rfl, by omega⟩, by omega⟩
      · -- else_t54
        refine JC.rs ?_
        refine Seq.p rfl Ev.eqStr ?_
        refine Seq.p rfl Ev.assign ?_
        refine Seq.nil ?_
        first | refine JC.c (ht := fun c58 => ?_) (hf := fun c58 => ?_) | refine JC.cb (ht := fun c58 => ?_) (hf := fun c58 => ?_)
        · -- then_t58
          obtain rfl : k = .member := by cases k <;> first | rfl | exact absurd c58 (by decide)
          refine JC.reg ?_
          refine Seq.p rfl (Ev.faB fd.api_Operation_2) ?_
          refine Seq.p rfl (Ev.ldB sc.uint32) ?_
          refine Seq.p rfl (Ev.as (v := .int .u64 o.member) (v' := .int .u64 (mn : Int)) (by rw [hmn]) (Ev.convU64 it.uint32 it.uint64)) ?_
          refine Seq.callP rfl (fun w' hw => refDecimal (n := mn) (by omega)) ?_
          refine Seq.p rfl Ev.assign ?_
          refine Seq.nil ?_
          refine JC.reg ?_
          refine Seq.p rfl Ev.move ?_
          refine Seq.p rfl (Ev.addStr (h := by show S.size + 1 ≤ _; omega)) ?_
          refine Seq.p rfl Ev.move ?_
          have hz1 : (S ++ (⟨#[32]⟩ : ByteArray)).size = S.size + 1 := by rw [ByteArray.size_append]; rfl
          simp only [writeR, writeF, hmn, hon, hpn, hsn, hwn, Int.toNat_natCast] at hwk hsnoc
          refine Seq.p rfl (Ev.addStr (h := by rw [hz1]; omega)) ?_
          refine Seq.p rfl Ev.assign ?_
          refine Seq.nil ?_
          refine JC.reg ?_
          refine Seq.p rfl Ev.move ?_
          refine Seq.p rfl (by first | exact Ev.inc | exact Ev.add) ?_
          refine Seq.p rfl Ev.assign ?_
          refine Seq.nil ?_
          refine ⟨j + 1, _, Part.refl _, ⟨Has.mk (by repeat (first | refine Off.upd ?_ rfl | exact Off.mix | refine Off.mix2 ?_ rfl | exact Off.refl)) (allLook_cons (by repeat (first | exact Look.here | apply Look.there (hne := rfl) | exact Look.const | apply Look.mix rfl | exact Look.arg0 | apply Look.args | exact Look.func)) (allLook_cons (by rw [hsnoc]; exact (by repeat (first | exact Look.here | apply Look.there (hne := rfl) | exact Look.const | apply Look.mix rfl | exact Look.arg0 | apply Look.args | exact Look.func))) allLook_nil)), rfl, by omega⟩, by omega⟩
        · -- else_t58
          refine JC.rs ?_
          refine Seq.p rfl Ev.eqStr ?_
          refine Seq.p rfl Ev.assign ?_
          refine Seq.nil ?_
          first | refine JC.c (ht := fun c64 => ?_) (hf := fun c64 => ?_) | refine JC.cb (ht := fun c64 => ?_) (hf := fun c64 => ?_)
          · -- then_t64
            obtain rfl : k = .price := by cases k <;> first | rfl | exact absurd c64 (by decide)
            refine JC.reg ?_
            refine Seq.p rfl (Ev.faB fd.api_Operation_3) ?_
            refine Seq.p rfl (Ev.ldB sc.int) ?_
            refine Seq.p rfl (Ev.as (v := .int .u64 (o.price % 18446744073709551616)) (v' := .int .u64 (((o.price % 18446744073709551616).toNat : Nat) : Int)) (by rw [Int.toNat_of_nonneg (by omega)]) (Ev.convU64W it.int it.uint64)) ?_
            refine Seq.callP rfl (fun w' hw => refDecimal (n := (o.price % 18446744073709551616).toNat) (by omega)) ?_
            refine Seq.p rfl Ev.assign ?_
            refine Seq.nil ?_
            refine JC.reg ?_
            refine Seq.p rfl Ev.move ?_
            refine Seq.p rfl (Ev.addStr (h := by show S.size + 1 ≤ _; omega)) ?_
            refine Seq.p rfl Ev.move ?_
            have hz1 : (S ++ (⟨#[32]⟩ : ByteArray)).size = S.size + 1 := by rw [ByteArray.size_append]; rfl
            simp only [writeR, writeF, hmn, hon, hpn, hsn, hwn, Int.toNat_natCast] at hwk hsnoc
            refine Seq.p rfl (Ev.addStr (h := by rw [hz1]; omega)) ?_
            refine Seq.p rfl Ev.assign ?_
            refine Seq.nil ?_
            refine JC.reg ?_
            refine Seq.p rfl Ev.move ?_
            refine Seq.p rfl (by first | exact Ev.inc | exact Ev.add) ?_
            refine Seq.p rfl Ev.assign ?_
            refine Seq.nil ?_
            refine ⟨j + 1, _, Part.refl _, ⟨Has.mk (by repeat (first | refine Off.upd ?_ rfl | exact Off.mix | refine Off.mix2 ?_ rfl | exact Off.refl)) (allLook_cons (by repeat (first | exact Look.here | apply Look.there (hne := rfl) | exact Look.const | apply Look.mix rfl | exact Look.arg0 | apply Look.args | exact Look.func)) (allLook_cons (by rw [hsnoc]; exact (by repeat (first | exact Look.here | apply Look.there (hne := rfl) | exact Look.const | apply Look.mix rfl | exact Look.arg0 | apply Look.args | exact Look.func))) allLook_nil)), rfl, by omega⟩, by omega⟩
          · -- else_t64
            refine JC.rs ?_
            refine Seq.p rfl Ev.eqStr ?_
            refine Seq.p rfl Ev.assign ?_
            refine Seq.nil ?_
            first | refine JC.c (ht := fun c70 => ?_) (hf := fun c70 => ?_) | refine JC.cb (ht := fun c70 => ?_) (hf := fun c70 => ?_)
            · -- then_t70
              refine JC.rs ?_
              refine Seq.p rfl (Ev.faB fd.api_Operation_4) ?_
              refine Seq.p rfl (Ev.ldB sc.int) ?_
              refine Seq.p rfl (Ev.faB fd.api_Operation_5) ?_
              refine Seq.p rfl (Ev.faB fd.api_Limits_2) ?_
              refine Seq.p rfl (Ev.ldB sc.int) ?_
              refine Seq.p rfl Ev.addW ?_
              refine Seq.p rfl (Ev.as (v := .int .u64 (IntKind.i64.wrap (o.count + o.lcount) % 18446744073709551616)) (v' := .int .u64 ((((o.count + o.lcount) % 18446744073709551616).toNat : Nat) : Int)) (by rw [wrap_mod, Int.toNat_of_nonneg (by omega)]) (Ev.convU64W it.int it.uint64)) ?_
              refine Seq.callP rfl (fun w' hw => refDecimal (n := ((o.count + o.lcount) % 18446744073709551616).toNat) (by omega)) ?_
              refine Seq.p rfl Ev.assign ?_
              refine Seq.nil ?_
              refine JC.rs ?_
              refine Seq.p rfl (Ev.faB fd.api_Operation_0) ?_
              refine Seq.p rfl (Ev.ldB sc.string) ?_
              refine Seq.p rfl Ev.eqStr ?_
              refine Seq.nil ?_
              first | refine JC.c (ht := fun c82 => ?_) (hf := fun c82 => ?_) | refine JC.cb (ht := fun c82 => ?_) (hf := fun c82 => ?_)
              · -- then_t82
                obtain rfl : k = .lcount := by cases k <;> first | rfl | exact absurd c82 (hi2 rfl) | exact absurd c70 (by decide)
                refine JC.reg ?_
                refine Seq.p rfl (Ev.faB fd.api_Operation_5) ?_
                refine Seq.p rfl (Ev.faB fd.api_Limits_2) ?_
                refine Seq.p rfl (Ev.ldB sc.int) ?_
                refine Seq.p rfl (Ev.as (v := .int .u64 (o.lcount % 18446744073709551616)) (v' := .int .u64 (((o.lcount % 18446744073709551616).toNat : Nat) : Int)) (by rw [Int.toNat_of_nonneg (by omega)]) (Ev.convU64W it.int it.uint64)) ?_
                refine Seq.callP rfl (fun w' hw => refDecimal (n := (o.lcount % 18446744073709551616).toNat) (by omega)) ?_
                refine Seq.p rfl Ev.assign ?_
                refine Seq.nil ?_
                refine JC.reg ?_
                refine Seq.p rfl Ev.move ?_
                refine Seq.p rfl (Ev.addStr (h := by show S.size + 1 ≤ _; omega)) ?_
                refine Seq.p rfl Ev.move ?_
                have hz1 : (S ++ (⟨#[32]⟩ : ByteArray)).size = S.size + 1 := by rw [ByteArray.size_append]; rfl
                simp only [writeR, writeF, hmn, hon, hpn, hsn, hwn, Int.toNat_natCast] at hwk hsnoc
                refine Seq.p rfl (Ev.addStr (h := by rw [hz1]; omega)) ?_
                refine Seq.p rfl Ev.assign ?_
                refine Seq.nil ?_
                refine JC.reg ?_
                refine Seq.p rfl Ev.move ?_
                refine Seq.p rfl (by first | exact Ev.inc | exact Ev.add) ?_
                refine Seq.p rfl Ev.assign ?_
                refine Seq.nil ?_
                refine ⟨j + 1, _, Part.refl _, ⟨Has.mk (by repeat (first | refine Off.upd ?_ rfl | exact Off.mix | refine Off.mix2 ?_ rfl | exact Off.refl)) (allLook_cons (by repeat (first | exact Look.here | apply Look.there (hne := rfl) | exact Look.const | apply Look.mix rfl | exact Look.arg0 | apply Look.args | exact Look.func)) (allLook_cons (by rw [hsnoc]; exact (by repeat (first | exact Look.here | apply Look.there (hne := rfl) | exact Look.const | apply Look.mix rfl | exact Look.arg0 | apply Look.args | exact Look.func))) allLook_nil)), rfl, by omega⟩, by omega⟩
              · -- else_t82
                obtain rfl : k = .count := by cases k <;> first | rfl | exact absurd (hi3 rfl) c82 | exact absurd c70 (by decide)
                refine JC.skip ?_
                refine JC.reg ?_
                refine Seq.p rfl Ev.move ?_
                refine Seq.p rfl (Ev.addStr (h := by show S.size + 1 ≤ _; omega)) ?_
                refine Seq.p rfl Ev.move ?_
                have hz1 : (S ++ (⟨#[32]⟩ : ByteArray)).size = S.size + 1 := by rw [ByteArray.size_append]; rfl
                simp only [writeR, writeF, hmn, hon, hpn, hsn, hwn, Int.toNat_natCast] at hwk hsnoc
                refine Seq.p rfl (Ev.addStr (h := by rw [hz1]; omega)) ?_
                refine Seq.p rfl Ev.assign ?_
                refine Seq.nil ?_
                refine JC.reg ?_
                refine Seq.p rfl Ev.move ?_
                refine Seq.p rfl (by first | exact Ev.inc | exact Ev.add) ?_
                refine Seq.p rfl Ev.assign ?_
                refine Seq.nil ?_
                refine ⟨j + 1, _, Part.refl _, ⟨Has.mk (by repeat (first | refine Off.upd ?_ rfl | exact Off.mix | refine Off.mix2 ?_ rfl | exact Off.refl)) (allLook_cons (by repeat (first | exact Look.here | apply Look.there (hne := rfl) | exact Look.const | apply Look.mix rfl | exact Look.arg0 | apply Look.args | exact Look.func)) (allLook_cons (by rw [hsnoc]; exact (by repeat (first | exact Look.here | apply Look.there (hne := rfl) | exact Look.const | apply Look.mix rfl | exact Look.arg0 | apply Look.args | exact Look.func))) allLook_nil)), rfl, by omega⟩, by omega⟩
            · -- else_t70
              refine JC.rs ?_
              refine Seq.p rfl Ev.eqStr ?_
              refine Seq.p rfl Ev.assign ?_
              refine Seq.nil ?_
              first | refine JC.c (ht := fun c88 => ?_) (hf := fun c88 => ?_) | refine JC.cb (ht := fun c88 => ?_) (hf := fun c88 => ?_)
              · -- then_t88
                obtain rfl : k = .ord := by cases k <;> first | rfl | exact absurd c88 (by decide)
                refine JC.reg ?_
                refine Seq.p rfl (Ev.faB fd.api_Operation_5) ?_
                refine Seq.p rfl (Ev.faB fd.api_Limits_0) ?_
                refine Seq.p rfl (Ev.as (v := .int .u64 o.ord) (v' := .int .u64 (on : Int)) (by rw [hon]) (Ev.ldB sc.uint64)) ?_
                refine Seq.callP rfl (fun w' hw => refDecimal (n := on) (by omega)) ?_
                refine Seq.p rfl Ev.assign ?_
                refine Seq.nil ?_
                refine JC.reg ?_
                refine Seq.p rfl Ev.move ?_
                refine Seq.p rfl (Ev.addStr (h := by show S.size + 1 ≤ _; omega)) ?_
                refine Seq.p rfl Ev.move ?_
                have hz1 : (S ++ (⟨#[32]⟩ : ByteArray)).size = S.size + 1 := by rw [ByteArray.size_append]; rfl
                simp only [writeR, writeF, hmn, hon, hpn, hsn, hwn, Int.toNat_natCast] at hwk hsnoc
                refine Seq.p rfl (Ev.addStr (h := by rw [hz1]; omega)) ?_
                refine Seq.p rfl Ev.assign ?_
                refine Seq.nil ?_
                refine JC.reg ?_
                refine Seq.p rfl Ev.move ?_
                refine Seq.p rfl (by first | exact Ev.inc | exact Ev.add) ?_
                refine Seq.p rfl Ev.assign ?_
                refine Seq.nil ?_
                refine ⟨j + 1, _, Part.refl _, ⟨Has.mk (by repeat (first | refine Off.upd ?_ rfl | exact Off.mix | refine Off.mix2 ?_ rfl | exact Off.refl)) (allLook_cons (by repeat (first | exact Look.here | apply Look.there (hne := rfl) | exact Look.const | apply Look.mix rfl | exact Look.arg0 | apply Look.args | exact Look.func)) (allLook_cons (by rw [hsnoc]; exact (by repeat (first | exact Look.here | apply Look.there (hne := rfl) | exact Look.const | apply Look.mix rfl | exact Look.arg0 | apply Look.args | exact Look.func))) allLook_nil)), rfl, by omega⟩, by omega⟩
              · -- else_t88
                refine JC.rs ?_
                refine Seq.p rfl Ev.eqStr ?_
                refine Seq.p rfl Ev.assign ?_
                refine Seq.nil ?_
                first | refine JC.c (ht := fun c94 => ?_) (hf := fun c94 => ?_) | refine JC.cb (ht := fun c94 => ?_) (hf := fun c94 => ?_)
                · -- then_t94
                  obtain rfl : k = .opn := by cases k <;> first | rfl | exact absurd c94 (by decide)
                  refine JC.reg ?_
                  refine Seq.p rfl (Ev.faB fd.api_Operation_5) ?_
                  refine Seq.p rfl (Ev.faB fd.api_Limits_1) ?_
                  refine Seq.p rfl (Ev.as (v := .int .u64 o.opn) (v' := .int .u64 (pn : Int)) (by rw [hpn]) (Ev.ldB sc.uint64)) ?_
                  refine Seq.callP rfl (fun w' hw => refDecimal (n := pn) (by omega)) ?_
                  refine Seq.p rfl Ev.assign ?_
                  refine Seq.nil ?_
                  refine JC.reg ?_
                  refine Seq.p rfl Ev.move ?_
                  refine Seq.p rfl (Ev.addStr (h := by show S.size + 1 ≤ _; omega)) ?_
                  refine Seq.p rfl Ev.move ?_
                  have hz1 : (S ++ (⟨#[32]⟩ : ByteArray)).size = S.size + 1 := by rw [ByteArray.size_append]; rfl
                  simp only [writeR, writeF, hmn, hon, hpn, hsn, hwn, Int.toNat_natCast] at hwk hsnoc
                  refine Seq.p rfl (Ev.addStr (h := by rw [hz1]; omega)) ?_
                  refine Seq.p rfl Ev.assign ?_
                  refine Seq.nil ?_
                  refine JC.reg ?_
                  refine Seq.p rfl Ev.move ?_
                  refine Seq.p rfl (by first | exact Ev.inc | exact Ev.add) ?_
                  refine Seq.p rfl Ev.assign ?_
                  refine Seq.nil ?_
                  refine ⟨j + 1, _, Part.refl _, ⟨Has.mk (by repeat (first | refine Off.upd ?_ rfl | exact Off.mix | refine Off.mix2 ?_ rfl | exact Off.refl)) (allLook_cons (by repeat (first | exact Look.here | apply Look.there (hne := rfl) | exact Look.const | apply Look.mix rfl | exact Look.arg0 | apply Look.args | exact Look.func)) (allLook_cons (by rw [hsnoc]; exact (by repeat (first | exact Look.here | apply Look.there (hne := rfl) | exact Look.const | apply Look.mix rfl | exact Look.arg0 | apply Look.args | exact Look.func))) allLook_nil)), rfl, by omega⟩, by omega⟩
                · -- else_t94
                  refine JC.rs ?_
                  refine Seq.p rfl Ev.eqStr ?_
                  refine Seq.p rfl Ev.assign ?_
                  refine Seq.nil ?_
                  first | refine JC.c (ht := fun c100 => ?_) (hf := fun c100 => ?_) | refine JC.cb (ht := fun c100 => ?_) (hf := fun c100 => ?_)
                  · -- then_t100
                    obtain rfl : k = .pos := by cases k <;> first | rfl | exact absurd c100 (by decide)
                    refine JC.reg ?_
                    refine Seq.p rfl (Ev.faB fd.api_Operation_5) ?_
                    refine Seq.p rfl (Ev.faB fd.api_Limits_3) ?_
                    refine Seq.p rfl (Ev.as (v := .int .u64 o.pos) (v' := .int .u64 (sn : Int)) (by rw [hsn]) (Ev.ldB sc.uint64)) ?_
                    refine Seq.callP rfl (fun w' hw => refDecimal (n := sn) (by omega)) ?_
                    refine Seq.p rfl Ev.assign ?_
                    refine Seq.nil ?_
                    refine JC.reg ?_
                    refine Seq.p rfl Ev.move ?_
                    refine Seq.p rfl (Ev.addStr (h := by show S.size + 1 ≤ _; omega)) ?_
                    refine Seq.p rfl Ev.move ?_
                    have hz1 : (S ++ (⟨#[32]⟩ : ByteArray)).size = S.size + 1 := by rw [ByteArray.size_append]; rfl
                    simp only [writeR, writeF, hmn, hon, hpn, hsn, hwn, Int.toNat_natCast] at hwk hsnoc
                    refine Seq.p rfl (Ev.addStr (h := by rw [hz1]; omega)) ?_
                    refine Seq.p rfl Ev.assign ?_
                    refine Seq.nil ?_
                    refine JC.reg ?_
                    refine Seq.p rfl Ev.move ?_
                    refine Seq.p rfl (by first | exact Ev.inc | exact Ev.add) ?_
                    refine Seq.p rfl Ev.assign ?_
                    refine Seq.nil ?_
                    refine ⟨j + 1, _, Part.refl _, ⟨Has.mk (by repeat (first | refine Off.upd ?_ rfl | exact Off.mix | refine Off.mix2 ?_ rfl | exact Off.refl)) (allLook_cons (by repeat (first | exact Look.here | apply Look.there (hne := rfl) | exact Look.const | apply Look.mix rfl | exact Look.arg0 | apply Look.args | exact Look.func)) (allLook_cons (by rw [hsnoc]; exact (by repeat (first | exact Look.here | apply Look.there (hne := rfl) | exact Look.const | apply Look.mix rfl | exact Look.arg0 | apply Look.args | exact Look.func))) allLook_nil)), rfl, by omega⟩, by omega⟩
                  · -- else_t100
                    refine JC.rs ?_
                    refine Seq.p rfl Ev.eqStr ?_
                    refine Seq.p rfl Ev.assign ?_
                    refine Seq.nil ?_
                    first | refine JC.c (ht := fun c106 => ?_) (hf := fun c106 => ?_) | refine JC.cb (ht := fun c106 => ?_) (hf := fun c106 => ?_)
                    · -- then_t106
                      obtain rfl : k = .worth := by cases k <;> first | rfl | exact absurd c106 (by decide)
                      refine JC.reg ?_
                      refine Seq.p rfl (Ev.faB fd.api_Operation_5) ?_
                      refine Seq.p rfl (Ev.faB fd.api_Limits_4) ?_
                      refine Seq.p rfl (Ev.as (v := .int .u64 o.worth) (v' := .int .u64 (wn : Int)) (by rw [hwn]) (Ev.ldB sc.uint64)) ?_
                      refine Seq.callP rfl (fun w' hw => refDecimal (n := wn) (by omega)) ?_
                      refine Seq.p rfl Ev.assign ?_
                      refine Seq.nil ?_
                      refine JC.reg ?_
                      refine Seq.p rfl Ev.move ?_
                      refine Seq.p rfl (Ev.addStr (h := by show S.size + 1 ≤ _; omega)) ?_
                      refine Seq.p rfl Ev.move ?_
                      have hz1 : (S ++ (⟨#[32]⟩ : ByteArray)).size = S.size + 1 := by rw [ByteArray.size_append]; rfl
                      simp only [writeR, writeF, hmn, hon, hpn, hsn, hwn, Int.toNat_natCast] at hwk hsnoc
                      refine Seq.p rfl (Ev.addStr (h := by rw [hz1]; omega)) ?_
                      refine Seq.p rfl Ev.assign ?_
                      refine Seq.nil ?_
                      refine JC.reg ?_
                      refine Seq.p rfl Ev.move ?_
                      refine Seq.p rfl (by first | exact Ev.inc | exact Ev.add) ?_
                      refine Seq.p rfl Ev.assign ?_
                      refine Seq.nil ?_
                      refine ⟨j + 1, _, Part.refl _, ⟨Has.mk (by repeat (first | refine Off.upd ?_ rfl | exact Off.mix | refine Off.mix2 ?_ rfl | exact Off.refl)) (allLook_cons (by repeat (first | exact Look.here | apply Look.there (hne := rfl) | exact Look.const | apply Look.mix rfl | exact Look.arg0 | apply Look.args | exact Look.func)) (allLook_cons (by rw [hsnoc]; exact (by repeat (first | exact Look.here | apply Look.there (hne := rfl) | exact Look.const | apply Look.mix rfl | exact Look.arg0 | apply Look.args | exact Look.func))) allLook_nil)), rfl, by omega⟩, by omega⟩
                    · -- else_t106
                      exfalso; rcases kstr_cases k with h | h | h | h | h | h | h | h <;> contradiction
    · -- else_t47
      obtain rfl : j = ks.length := by omega
      have hR := hRl ks.length
      rw [List.take_length] at hR ⊢
      refine JC.exit ?_ -- 0
      refine JC.rs ?_
      refine Seq.p rfl Ev.move ?_
      refine Seq.callP rfl (fun w' hw => hparse (by omega) w') ?_
      refine Seq.p rfl Ev.move ?_
      refine Seq.p rfl Ev.extract ?_
      refine Seq.p rfl Ev.extract ?_
      refine Seq.p rfl Ev.extract ?_
      refine Seq.alloc (cs := [_, _, _, _, _, _, _, _, _, _, _]) (hz := z.api_Operation) (k := ?_); intro b9
      refine Seq.storeTo (cs' := po.enc) sz.api_Operation (hH := At.z) (hfit := Nat.le_of_ble_eq_true rfl) (hcs := rfl) (k := ?_)
      refine Seq.p rfl Ev.assign ?_
      refine Seq.p rfl Ev.assign ?_
      refine Seq.nil ?_
      refine JC.seq ?_
      refine JC.rs ?_
      refine Seq.p rfl Ev.move ?_
      refine Seq.p rfl Ev.ne ?_
      refine Seq.p rfl Ev.move ?_
      refine Seq.orG (D := [124, 125, 126, 127, 128]) (d := 124) (t := 128) (k := 4) (hn := fun h124 => ?_) (hx := ?_)
      · repeat (first | refine Seq.gn rfl rfl rfl rfl ?_ | refine Seq.gu rfl rfl rfl ?_)
        refine Seq.p rfl Ev.pickT ?_
        exact Seq.nil ⟨rfl, (by repeat (first | with_reducible exact Off.refl | refine Off.upd ?_ rfl | exact Off.mix | refine Off.mix2 ?_ rfl)), Look.here⟩
      apply Exists.intro
      refine ⟨fun h124 => ?_, fun u128 => ?_⟩
      · try simp only [decide_eq_true_eq, decide_eq_false_iff_not, Bool.and_eq_true, Bool.or_eq_true, Bool.not_eq_true', Bool.not_eq_false', Bool.or_eq_false_iff, Bool.and_eq_false_imp] at h124
        refine Seq.gy rfl rfl rfl ?_
        refine Seq.p rfl (Ev.ldBA (cs := po.enc) ag.api_Operation) ?_
        refine Seq.gy rfl rfl rfl ?_
        refine Seq.p rfl (Ev.ldBA (cs := o.enc) ag.api_Operation) ?_
        refine Seq.gy rfl rfl rfl ?_
        refine Seq.p rfl (Ev.as (v' := .bool (!(decide (po = o)))) (by rw [← Opn.eqL_enc]) (Ev.neAg (xs := po.enc) (ys := o.enc) so.api_Operation ag.api_Operation gd.api_Operation)) ?_
        refine Seq.p rfl Ev.pickF ?_
        exact Seq.nil ⟨rfl, (by repeat (first | with_reducible exact Off.refl | refine Off.upd ?_ rfl | exact Off.mix | refine Off.mix2 ?_ rfl)), Look.here⟩
      refine Seq.nil ?_
      first | refine JC.c (ht := fun c128 => ?_) (hf := fun c128 => ?_) | refine JC.cb (ht := fun c128 => ?_) (hf := fun c128 => ?_)
      · -- then_t128
        refine JC.rs ?_
        refine Seq.p rfl Ev.assign ?_
        refine Seq.p rfl Ev.assign ?_
        refine Seq.nil ?_
        refine JC.ret ?_
        show retQ _ _ _ _ _ _ _ _
        refine ret2 (hp := Part.nil _) (hpost := ?_)
        rw [if_neg (fun h => by rw [h.1, h.2] at c128; simp at c128)]
      · -- else_t128
        refine JC.skip ?_
        refine JC.rs ?_
        refine Seq.p rfl Ev.move ?_
        refine Seq.p rfl Ev.assign ?_
        refine Seq.p rfl Ev.assign ?_
        refine Seq.nil ?_
        refine JC.ret ?_
        show retQ _ _ _ _ _ _ _ _
        refine ret2 (hp := Part.nil _) (hpost := ?_)
        rw [if_pos (by simpa using c128)]
theorem refPrint {w : World} {o : Opn} (ho : OpnOk o) (hnm : o.name.size ≤ 140737488355328) : Spec Go.Proofs.Tryd.prog 8 #[.agg o.enc.toArray] w [] (fun u _ => u = .tuple #[.string (printF o).1, .int .i64 (printF o).2]) := by
  rw [← printR_eq ⟨ho.price.2, ho.count.2, ho.lcount.2⟩]
  cases hs : shapeF o.word with
  | none => exact refPrintNone hs
  | some ks => exact refPrintSome hs ho hnm
end Go.Rx
/- The laws ConsoleReads and ConsoleForms give true. -/
namespace Go.Rx
open Go Go.RowKit Go.Lib Go.Proofs.YtonoamdonmbkpaaDoor
set_option linter.unusedVariables false
set_option linter.unusedSimpArgs false
def settleL : List Int := [115, 101, 116, 116, 108, 101]
theorem settle_parse : parseF settleL = ({ op0 with word := ⟨#[115, 101, 116, 116, 108, 101]⟩ }, 0, 0) := by decide +kernel
set_option maxHeartbeats 4000000 in
set_option maxRecDepth 100000 in
theorem lawReads27 {w : World} {s : ByteArray} {o : Opn} (hs : s.size ≤ 281474976710656) (ho : OpnOk o) (hnm : o.name.size ≤ 140737488355328) (hL : Laid w) :
    Spec Go.Proofs.Tryd.prog 3 #[.string s, .agg o.enc.toArray] w [] (fun u _ => u = .bool true) := by
  obtain ⟨F, hF⟩ : ∃ F, F = bytesOf s := ⟨_, rfl⟩
  have hsF : s = strOf F := by rw [hF, strOf_bytes]
  have hB : isBytes F := by rw [hF]; exact bytesOf_range s
  have hl : F.length ≤ 281474976710656 := by rw [hF, bytesOf_length]; exact hs
  subst hsF
  clear hF
  obtain ⟨⟨po, pa, pe⟩, hPF⟩ : ∃ q, parseF F = q := ⟨_, rfl⟩
  obtain ⟨⟨ts, te⟩, hPR⟩ : ∃ q, printF o = q := ⟨_, rfl⟩
  have h1 : ∀ w', Laid w' → Spec Go.Proofs.Tryd.prog 5 #[.string (strOf F)] w' [] (fun u _ => u = .tuple #[.agg po.enc.toArray, .int .i64 pa, .int .i64 pe]) := fun w' h => by have h := conParseL (w := w') hB hl h; rw [hPF] at h; exact h
  have h2 : ∀ w', Spec Go.Proofs.Tryd.prog 6 #[.string (strOf F)] w' [] (fun u _ => u = .tuple #[.agg po.enc.toArray, .int .i64 pa, .int .i64 pe]) := fun w' => by have h := refParseL (w := w') hB hl; rw [hPF] at h; exact h
  have h3 : ∀ w', Laid w' → Spec Go.Proofs.Tryd.prog 7 #[.agg o.enc.toArray] w' [] (fun u _ => u = .tuple #[.string ts, .int .i64 te]) := fun w' h => by have h := conPrint (w := w') ho hnm h; rw [hPR] at h; exact h
  have h4 : ∀ w', Spec Go.Proofs.Tryd.prog 8 #[.agg o.enc.toArray] w' [] (fun u _ => u = .tuple #[.string ts, .int .i64 te]) := fun w' => by have h := refPrint (w := w') ho hnm; rw [hPR] at h; exact h
  obtain ⟨o5, ho5⟩ : ∃ o5 : Opn, o5 = { op0 with word := ⟨#[115, 101, 116, 116, 108, 101]⟩ } := ⟨_, rfl⟩
  have h5 : ∀ w', Laid w' → Spec Go.Proofs.Tryd.prog 5 #[.string ⟨#[115, 101, 116, 116, 108, 101]⟩] w' [] (fun u _ => u = .tuple #[.agg o5.enc.toArray, .int .i64 0, .int .i64 0]) := fun w' h => by
    have h := conParseL (w := w') (F := settleL) (by intro x hx; simp [settleL] at hx; omega) (by decide) h
    rw [settle_parse, ← ho5] at h
    exact h
  have hw5 : o5.word = ⟨#[115, 101, 116, 116, 108, 101]⟩ := by rw [ho5]
  refine Spec.enter (fn := Go.Proofs.Tryd.f3) (n := 77) [.string (strOf F), .agg o.enc.toArray] Go.Proofs.Tryd.func3 (by kernel_rfl) rfl Go.Proofs.Tryd.ntmps3 Go.Proofs.Tryd.results3 rfl (Own.nil _) ?_
  refine JC.rs ?_
  refine Seq.box (cs := [_, _, _, _, _, _, _, _, _, _, _]) (k := ?_); intro b3
  refine Seq.p rfl Ev.assign ?_
  refine Seq.nil ?_
  refine JC.rs ?_
  refine Seq.p rfl Ev.move ?_
  refine Seq.callP rfl (fun w' hw => h1 w' (hL.upd hw)) ?_
  refine Seq.p rfl Ev.move ?_
  refine Seq.p rfl Ev.extract ?_
  refine Seq.p rfl Ev.extract ?_
  refine Seq.p rfl Ev.extract ?_
  refine Seq.alloc (cs := [_, _, _, _, _, _, _, _, _, _, _]) (hz := z.api_Operation) (k := ?_); intro b5
  refine Seq.storeTo (cs' := po.enc) sz.api_Operation (hH := At.z) (hfit := Nat.le_of_ble_eq_true rfl) (hcs := rfl) (k := ?_)
  refine Seq.p rfl Ev.assign ?_
  refine Seq.p rfl Ev.assign ?_
  refine Seq.nil ?_
  refine JC.rs ?_
  refine Seq.p rfl Ev.move ?_
  refine Seq.callP rfl (fun w' hw => h2 w') ?_
  refine Seq.p rfl Ev.move ?_
  refine Seq.p rfl Ev.extract ?_
  refine Seq.p rfl Ev.extract ?_
  refine Seq.p rfl Ev.extract ?_
  refine Seq.alloc (cs := [_, _, _, _, _, _, _, _, _, _, _]) (hz := z.api_Operation) (k := ?_); intro b8
  refine Seq.storeTo (cs' := po.enc) sz.api_Operation (hH := At.z) (hfit := Nat.le_of_ble_eq_true rfl) (hcs := rfl) (k := ?_)
  refine Seq.p rfl Ev.assign ?_
  refine Seq.p rfl Ev.assign ?_
  refine Seq.nil ?_
  refine JC.rs ?_
  refine Seq.p rfl (Ev.ldBA (cs := o.enc) ag.api_Operation) ?_
  refine Seq.callP rfl (fun w' hw => h3 w' (hL.upd hw)) ?_
  refine Seq.p rfl Ev.move ?_
  refine Seq.p rfl Ev.extract ?_
  refine Seq.p rfl Ev.extract ?_
  refine Seq.p rfl Ev.assign ?_
  refine Seq.p rfl Ev.assign ?_
  refine Seq.nil ?_
  refine JC.rs ?_
  refine Seq.p rfl (Ev.ldBA (cs := o.enc) ag.api_Operation) ?_
  refine Seq.callP rfl (fun w' hw => h4 w') ?_
  refine Seq.p rfl Ev.move ?_
  refine Seq.p rfl Ev.extract ?_
  refine Seq.p rfl Ev.extract ?_
  refine Seq.p rfl Ev.assign ?_
  refine Seq.p rfl Ev.assign ?_
  refine Seq.nil ?_
  refine JC.rs ?_
  refine Seq.callP rfl (fun w' hw => h5 w' (hL.upd hw)) ?_
  refine Seq.p rfl Ev.move ?_
  refine Seq.p rfl Ev.extract ?_
  refine Seq.p rfl Ev.extract ?_
  refine Seq.p rfl Ev.extract ?_
  refine Seq.alloc (cs := [_, _, _, _, _, _, _, _, _, _, _]) (hz := z.api_Operation) (k := ?_); intro b15
  refine Seq.storeTo (cs' := o5.enc) sz.api_Operation (hH := At.z) (hfit := Nat.le_of_ble_eq_true rfl) (hcs := rfl) (k := ?_)
  refine Seq.p rfl Ev.assign ?_
  refine Seq.p rfl Ev.assign ?_
  refine Seq.nil ?_
  refine JC.rs ?_
  refine Seq.p rfl (Ev.ldBA (cs := po.enc) ag.api_Operation) ?_
  refine Seq.p rfl (Ev.ldBA (cs := po.enc) ag.api_Operation) ?_
  refine Seq.p rfl (Ev.as (v' := .bool true) (by rw [Opn.eqL_enc, decide_eq_true rfl]) (Ev.eqAg (xs := po.enc) (ys := po.enc) so.api_Operation ag.api_Operation gd.api_Operation)) ?_
  refine Seq.p rfl Ev.move ?_
  refine Seq.andG (D := [48, 49, 50, 51, 52]) (d := 48) (t := 52) (k := 4) (hn := fun h48 => ?_) (hx := ?_)
  · repeat (first | refine Seq.gn rfl rfl rfl rfl ?_ | refine Seq.gu rfl rfl rfl ?_)
    refine Seq.p rfl Ev.pickF ?_
    exact Seq.nil ⟨rfl, (by repeat (first | with_reducible exact Off.refl | refine Off.upd ?_ rfl | exact Off.mix | refine Off.mix2 ?_ rfl)), Look.here⟩
  apply Exists.intro
  refine ⟨fun h48 => ?_, fun u52 => ?_⟩
  · try simp only [decide_eq_true_eq, decide_eq_false_iff_not, Bool.and_eq_true, Bool.or_eq_true, Bool.not_eq_true', Bool.not_eq_false', Bool.or_eq_false_iff, Bool.and_eq_false_imp] at h48
    refine Seq.gy rfl rfl rfl ?_
    refine Seq.p rfl Ev.move ?_
    refine Seq.gy rfl rfl rfl ?_
    refine Seq.p rfl Ev.move ?_
    refine Seq.gy rfl rfl rfl ?_
    refine Seq.p rfl Ev.eq ?_
    refine Seq.p rfl Ev.pickT ?_
    exact Seq.nil ⟨rfl, (by repeat (first | with_reducible exact Off.refl | refine Off.upd ?_ rfl | exact Off.mix | refine Off.mix2 ?_ rfl)), Look.here⟩
  refine Seq.p rfl Ev.move ?_
  refine Seq.andG (D := [53, 54, 55, 56, 57]) (d := 53) (t := 57) (k := 4) (hn := fun h53 => ?_) (hx := ?_)
  · repeat (first | refine Seq.gn rfl rfl rfl rfl ?_ | refine Seq.gu rfl rfl rfl ?_)
    refine Seq.p rfl Ev.pickF ?_
    exact Seq.nil ⟨rfl, (by repeat (first | with_reducible exact Off.refl | refine Off.upd ?_ rfl | exact Off.mix | refine Off.mix2 ?_ rfl)), Look.here⟩
  apply Exists.intro
  refine ⟨fun h53 => ?_, fun u57 => ?_⟩
  · try simp only [decide_eq_true_eq, decide_eq_false_iff_not, Bool.and_eq_true, Bool.or_eq_true, Bool.not_eq_true', Bool.not_eq_false', Bool.or_eq_false_iff, Bool.and_eq_false_imp] at h53
    refine Seq.gy rfl rfl rfl ?_
    refine Seq.p rfl Ev.move ?_
    refine Seq.gy rfl rfl rfl ?_
    refine Seq.p rfl Ev.move ?_
    refine Seq.gy rfl rfl rfl ?_
    refine Seq.p rfl Ev.eq ?_
    refine Seq.p rfl Ev.pickT ?_
    exact Seq.nil ⟨rfl, (by repeat (first | with_reducible exact Off.refl | refine Off.upd ?_ rfl | exact Off.mix | refine Off.mix2 ?_ rfl)), Look.here⟩
  refine Seq.p rfl Ev.move ?_
  refine Seq.andG (D := [58, 59, 60, 61, 62]) (d := 58) (t := 62) (k := 4) (hn := fun h58 => ?_) (hx := ?_)
  · repeat (first | refine Seq.gn rfl rfl rfl rfl ?_ | refine Seq.gu rfl rfl rfl ?_)
    refine Seq.p rfl Ev.pickF ?_
    exact Seq.nil ⟨rfl, (by repeat (first | with_reducible exact Off.refl | refine Off.upd ?_ rfl | exact Off.mix | refine Off.mix2 ?_ rfl)), Look.here⟩
  apply Exists.intro
  refine ⟨fun h58 => ?_, fun u62 => ?_⟩
  · try simp only [decide_eq_true_eq, decide_eq_false_iff_not, Bool.and_eq_true, Bool.or_eq_true, Bool.not_eq_true', Bool.not_eq_false', Bool.or_eq_false_iff, Bool.and_eq_false_imp] at h58
    refine Seq.gy rfl rfl rfl ?_
    refine Seq.p rfl Ev.move ?_
    refine Seq.gy rfl rfl rfl ?_
    refine Seq.p rfl Ev.move ?_
    refine Seq.gy rfl rfl rfl ?_
    refine Seq.p rfl Ev.eqStr ?_
    refine Seq.p rfl Ev.pickT ?_
    exact Seq.nil ⟨rfl, (by repeat (first | with_reducible exact Off.refl | refine Off.upd ?_ rfl | exact Off.mix | refine Off.mix2 ?_ rfl)), Look.here⟩
  refine Seq.p rfl Ev.move ?_
  refine Seq.andG (D := [63, 64, 65, 66, 67]) (d := 63) (t := 67) (k := 4) (hn := fun h63 => ?_) (hx := ?_)
  · repeat (first | refine Seq.gn rfl rfl rfl rfl ?_ | refine Seq.gu rfl rfl rfl ?_)
    refine Seq.p rfl Ev.pickF ?_
    exact Seq.nil ⟨rfl, (by repeat (first | with_reducible exact Off.refl | refine Off.upd ?_ rfl | exact Off.mix | refine Off.mix2 ?_ rfl)), Look.here⟩
  apply Exists.intro
  refine ⟨fun h63 => ?_, fun u67 => ?_⟩
  · try simp only [decide_eq_true_eq, decide_eq_false_iff_not, Bool.and_eq_true, Bool.or_eq_true, Bool.not_eq_true', Bool.not_eq_false', Bool.or_eq_false_iff, Bool.and_eq_false_imp] at h63
    refine Seq.gy rfl rfl rfl ?_
    refine Seq.p rfl Ev.move ?_
    refine Seq.gy rfl rfl rfl ?_
    refine Seq.p rfl Ev.move ?_
    refine Seq.gy rfl rfl rfl ?_
    refine Seq.p rfl Ev.eq ?_
    refine Seq.p rfl Ev.pickT ?_
    exact Seq.nil ⟨rfl, (by repeat (first | with_reducible exact Off.refl | refine Off.upd ?_ rfl | exact Off.mix | refine Off.mix2 ?_ rfl)), Look.here⟩
  refine Seq.p rfl Ev.move ?_
  refine Seq.andG (D := [68, 69, 70, 71, 72]) (d := 68) (t := 72) (k := 4) (hn := fun h68 => ?_) (hx := ?_)
  · repeat (first | refine Seq.gn rfl rfl rfl rfl ?_ | refine Seq.gu rfl rfl rfl ?_)
    refine Seq.p rfl Ev.pickF ?_
    exact Seq.nil ⟨rfl, (by repeat (first | with_reducible exact Off.refl | refine Off.upd ?_ rfl | exact Off.mix | refine Off.mix2 ?_ rfl)), Look.here⟩
  apply Exists.intro
  refine ⟨fun h68 => ?_, fun u72 => ?_⟩
  · try simp only [decide_eq_true_eq, decide_eq_false_iff_not, Bool.and_eq_true, Bool.or_eq_true, Bool.not_eq_true', Bool.not_eq_false', Bool.or_eq_false_iff, Bool.and_eq_false_imp] at h68
    refine Seq.gy rfl rfl rfl ?_
    refine Seq.p rfl (Ev.faB fd.api_Operation_0) ?_
    refine Seq.gy rfl rfl rfl ?_
    refine Seq.p rfl (Ev.as (v := .string o5.word) (v' := .string ⟨#[115, 101, 116, 116, 108, 101]⟩) (by rw [hw5]) (Ev.ldB sc.string)) ?_
    refine Seq.gy rfl rfl rfl ?_
    refine Seq.p rfl Ev.eqStr ?_
    refine Seq.p rfl Ev.pickT ?_
    exact Seq.nil ⟨rfl, (by repeat (first | with_reducible exact Off.refl | refine Off.upd ?_ rfl | exact Off.mix | refine Off.mix2 ?_ rfl)), Look.here⟩
  refine Seq.p rfl Ev.move ?_
  refine Seq.andG (D := [73, 74, 75, 76]) (d := 73) (t := 76) (k := 3) (hn := fun h73 => ?_) (hx := ?_)
  · repeat (first | refine Seq.gn rfl rfl rfl rfl ?_ | refine Seq.gu rfl rfl rfl ?_)
    refine Seq.p rfl Ev.pickF ?_
    exact Seq.nil ⟨rfl, (by repeat (first | with_reducible exact Off.refl | refine Off.upd ?_ rfl | exact Off.mix | refine Off.mix2 ?_ rfl)), Look.here⟩
  apply Exists.intro
  refine ⟨fun h73 => ?_, fun u76 => ?_⟩
  · try simp only [decide_eq_true_eq, decide_eq_false_iff_not, Bool.and_eq_true, Bool.or_eq_true, Bool.not_eq_true', Bool.not_eq_false', Bool.or_eq_false_iff, Bool.and_eq_false_imp] at h73
    refine Seq.gy rfl rfl rfl ?_
    refine Seq.p rfl Ev.move ?_
    refine Seq.gy rfl rfl rfl ?_
    refine Seq.p rfl Ev.eq ?_
    refine Seq.p rfl Ev.pickT ?_
    exact Seq.nil ⟨rfl, (by repeat (first | with_reducible exact Off.refl | refine Off.upd ?_ rfl | exact Off.mix | refine Off.mix2 ?_ rfl)), Look.here⟩
  refine Seq.p rfl Ev.assign ?_
  refine Seq.nil ?_
  refine JC.ret ?_
  show retQ _ _ _ _ _ _ _ _
  refine ret1 (hp := Part.nil _) (hpost := ?_)
  simp
end Go.Rx
/- From the reading of a call's arguments to an operation. -/
namespace Go.Rx
open Go Go.RowKit Go.WideShapes
set_option linter.unusedVariables false
theorem numW {k : IntKind} {v : Value} (h : isSort (.int k) v = true) (hw : wfV v = true) : ∃ n, v = .int k n ∧ k.min ≤ n ∧ n ≤ k.max := by
  obtain ⟨n, rfl⟩ := isSort_int h
  refine ⟨n, rfl, ?_⟩
  have h2 : (Lit.int k n).wf = true := hw
  unfold Lit.wf at h2
  rw [Bool.and_eq_true] at h2
  exact ⟨of_decide_eq_true h2.1, of_decide_eq_true h2.2⟩
theorem strW {v : Value} (h : isSort .str v = true) : ∃ s, v = .string s := by cases v <;> simp [isSort] at h; exact ⟨_, rfl⟩
theorem boolW {v : Value} (h : isSort .bool v = true) : ∃ b, v = .bool b := by cases v <;> simp [isSort] at h; exact ⟨_, rfl⟩
theorem str_lim27 {H : Type} {o : ByteArray} (h : Light Go.Proofs.Tryd.prog 9 (DataW.lit (Lit.string o.data.toList) : DataW H)) : o.size ≤ 281474976710656 := by
  have h1 := h o.data.toList.length (by simp [DataW.weights])
  have e2 : o.data.toList.length = o.size := by simp
  simp only [reachBytes] at h1
  omega
set_option maxRecDepth 100000 in
theorem open_opn {H : Type} {enc : TypeId × Value → H} {W : World} {base : Nat} {v : Value} {d : DataW H} {p : List MemPlace} (hv : Value.okWide Go.Proofs.Tryd.prog W .any base 27 v) (h : DataW.Trod enc Go.Proofs.Tryd.prog W 0 (fun _ => true) true 27 v d p) (hl : Light Go.Proofs.Tryd.prog 27 d) :
    ∃ o : Opn, v = .agg o.enc.toArray ∧ OpnOk o ∧ o.name.size ≤ 140737488355328 := by
  obtain ⟨cs, rfl, hcs⟩ := okWide_struct Go.Proofs.Tryd.underlying27 hv
  obtain ⟨fuel, hf⟩ := h
  have e : (Value.agg cs).cells.toList = cs.toList := rfl
  rw [e] at hf
  have hp := trod_plain 20 _ _ so.api_Operation fuel _ _ hf
  obtain ⟨ha, hb⟩ := hp
  obtain ⟨c0, r0, q0, i0, ha⟩ := areSorts_cons ha
  obtain ⟨c1, r1, rfl, i1, ha⟩ := areSorts_cons ha
  obtain ⟨c2, r2, rfl, i2, ha⟩ := areSorts_cons ha
  obtain ⟨c3, r3, rfl, i3, ha⟩ := areSorts_cons ha
  obtain ⟨c4, r4, rfl, i4, ha⟩ := areSorts_cons ha
  obtain ⟨c5, r5, rfl, i5, ha⟩ := areSorts_cons ha
  obtain ⟨c6, r6, rfl, i6, ha⟩ := areSorts_cons ha
  obtain ⟨c7, r7, rfl, i7, ha⟩ := areSorts_cons ha
  obtain ⟨c8, r8, rfl, i8, ha⟩ := areSorts_cons ha
  obtain ⟨c9, r9, rfl, i9, ha⟩ := areSorts_cons ha
  obtain ⟨c10, r10, rfl, i10, ha⟩ := areSorts_cons ha
  obtain rfl := areSorts_nil ha
  rw [q0] at hb
  simp only [List.all_cons, List.all_nil, Bool.and_true, Bool.and_eq_true] at hb
  obtain ⟨s0, rfl⟩ := strW i0
  obtain ⟨s1, rfl⟩ := strW i1
  obtain ⟨n2, rfl, w2⟩ := numW i2 hb.2.2.1
  obtain ⟨n3, rfl, w3⟩ := numW i3 hb.2.2.2.1
  obtain ⟨n4, rfl, w4⟩ := numW i4 hb.2.2.2.2.1
  obtain ⟨n5, rfl, w5⟩ := numW i5 hb.2.2.2.2.2.1
  obtain ⟨n6, rfl, w6⟩ := numW i6 hb.2.2.2.2.2.2.1
  obtain ⟨n7, rfl, w7⟩ := numW i7 hb.2.2.2.2.2.2.2.1
  obtain ⟨n8, rfl, w8⟩ := numW i8 hb.2.2.2.2.2.2.2.2.1
  obtain ⟨n9, rfl, w9⟩ := numW i9 hb.2.2.2.2.2.2.2.2.2.1
  obtain ⟨b10, rfl⟩ := boolW i10
  refine ⟨⟨s0, s1, n2, n3, n4, n5, n6, n7, n8, n9, b10⟩, ?_, ⟨w2, w3, w4, w5, w6, w7, w8, w9⟩, ?_⟩
  · congr 1
    apply Array.ext'
    rw [q0]
    rfl
  · show s1.size ≤ _
    obtain ⟨ys, m, _, hd, _, hyl, hg⟩ := DataW.trod_struct Go.Proofs.Tryd.underlying27 hf
    obtain ⟨rfl, rfl⟩ := Prod.mk.inj hd
    have h1 : ys.length = 7 := hyl
    have h2 := hg 1 _ rfl
    have h3 : ys[1]? = some ys[1] := List.getElem?_eq_getElem (by omega)
    rw [h3] at h2
    obtain ⟨s', e1, e2, _⟩ := DataW.trod_string Go.Proofs.Tryd.underlying9 h2
    have h4 := light_field Go.Proofs.Tryd.underlying27 hl (i := 1) rfl h3
    have hc : (Go.Proofs.Tryd.prog.cellsOf 9) = 1 := by kernel_rfl
    have e3 : s' = s1 := by
      have e1' : (cs.toList.drop 1).take (Go.Proofs.Tryd.prog.cellsOf 9) = [.string s'] := e1
      rw [hc, q0] at e1'
      simp at e1'
      exact e1'.symm
    subst e3
    have h5 := h4 s'.data.toList.length (by rw [e2]; simp [DataW.weights])
    simp only [reachBytes] at h5
    have h6 : s'.data.toList.length = s'.size := by simp
    omega
end Go.Rx
