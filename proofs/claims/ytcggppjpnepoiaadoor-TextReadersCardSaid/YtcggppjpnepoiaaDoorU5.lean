/- What is lent to a call, whether it stayed, and what writes over it. -/
import Derived.Test.YtcggppjpnepoiaaDoorU4
namespace Go.Rx
open Go Go.RowKit Go.Lib Go.Proofs.YtcggppjpnepoiaaDoor
set_option linter.unusedVariables false
set_option linter.unusedSimpArgs false
abbrev bytesC (v : Value) (l : List Int) : Chunk := .own 5 1 v l.length (l.flatMap byteEnc)
theorem bytesC_append (v : Value) (l m : List Int) (j : Nat) (hj : m.length = j) : bytesC v (l ++ m) = .own 5 1 v (l.length + j) (l.flatMap byteEnc ++ m.flatMap byteEnc) := by
  subst hj
  unfold bytesC
  rw [List.length_append, List.flatMap_append]
def markN (i : Nat) : List Int := (List.range i).map fun j => ((171 + j : Nat) : Int)
theorem markN_len (i : Nat) : (markN i).length = i := by simp [markN]
theorem markN_succ (i : Nat) : markN (i + 1) = markN i ++ [((171 + i : Nat) : Int)] := by simp [markN, List.range_succ]
theorem markN_get {i j : Nat} (h : j < i) : (markN i)[j]! = ((171 + j : Nat) : Int) := by
  rw [getElem!_pos _ j (by rw [markN_len]; exact h)]
  simp [markN]
set_option maxHeartbeats 1000000 in
set_option maxRecDepth 100000 in
theorem lawLent {w : World} {v : Value} {l : List Int} (hr : RSl byteEnc 1 w [] v l) (hl : l.length ≤ 140737488351232) :
    Spec Go.Proofs.Tryd.prog 16 #[v] w [] (fun u H' => ∃ A c, u = .tuple #[subSl (.slice A (l.length + 32) c) 0 l.length 1, .slice A (l.length + 32) c] ∧ H' = [bytesC (.slice A (l.length + 32) c) (l ++ markN 32)]) := by
  refine Spec.enter (fn := Go.Proofs.Tryd.f16) (n := 28) [v] Go.Proofs.Tryd.func16 (by kernel_rfl) rfl Go.Proofs.Tryd.ntmps16 Go.Proofs.Tryd.results16 rfl (Own.nil _) ?_
  refine JC.rs ?_
  refine Seq.p rfl Ev.assign ?_
  refine Seq.p rfl Ev.assign ?_
  refine Seq.nil ?_
  refine JC.rs ?_
  refine Seq.p rfl Ev.move ?_
  refine Seq.p rfl (Ev.lenSl sl.sl_uint8 (hr := hr.r)) ?_
  refine Seq.p rfl (Ev.addN (m := l.length) (c := 32)) ?_
  refine Seq.mkSl0 (hsl := sl.sl_uint8) (he := el.uint8) (c := l.length + 32) (kk := ?_); intro b9
  refine Seq.p rfl Ev.assign ?_
  refine Seq.nil ?_
  refine JC.rs ?_
  refine Seq.p rfl Ev.move ?_
  refine Seq.p rfl Ev.move ?_
  refine Seq.append (hsl := sl.sl_uint8) (he := el.uint8) (hsrc := fun w' hw => Src.rsl sl.sl_uint8 (hr.up hw) (by omega) byteOne) (k := ?_); intro A12 c12
  rw [Nat.zero_add l.length, List.nil_append]
  refine Seq.p rfl Ev.assign ?_
  refine Seq.nil ?_
  refine JC.seq ?_
  refine JC.rs ?_
  refine Seq.p rfl Ev.assign ?_
  refine Seq.nil ?_
  refine JC.blk ?_
  refine JC.loop (α := Nat) (I := fun i e1 H1 => ∃ A c, Has [4, 5, 13, 14, 15, 16, 17, 18, 19, 20, 21, 22] [(4, .slice A (l.length + i) c), (5, .int .i64 (i : Int))] _ e1 ∧ H1 = [bytesC (.slice A (l.length + i) c) (l ++ markN i)] ∧ i ≤ 32) (μ := fun i => 32 - i) 0 ⟨A12, c12, Has.mk Off.refl (allLook_cons (by repeat (first | exact Look.here | apply Look.there (hne := rfl) | exact Look.const | apply Look.mix rfl | exact Look.arg0 | apply Look.args | exact Look.func)) (allLook_cons (by repeat (first | exact Look.here | apply Look.there (hne := rfl) | exact Look.const | apply Look.mix rfl | exact Look.arg0 | apply Look.args | exact Look.func)) allLook_nil)), by simp [markN, bytesC], by omega⟩ ?_
  rintro i _ _ ⟨A, c, ⟨u, rfl⟩, rfl, hi⟩; dsimp only [setL]
  have hm := markN_len i
  rw [show bytesC (.slice A (l.length + i) c) (l ++ markN i) = .own 5 1 (.slice A (l.length + i) c) (l.length + i) ((l ++ markN i).flatMap byteEnc) by unfold bytesC; rw [List.length_append, hm]]
  refine JC.seq ?_
  refine JC.rs ?_
  refine Seq.p rfl Ev.move ?_
  refine Seq.p rfl Ev.lt ?_
  refine Seq.nil ?_
  first | refine JC.c (ht := fun c14 => ?_) (hf := fun c14 => ?_) | refine JC.cb (ht := fun c14 => ?_) (hf := fun c14 => ?_)
  · -- then_t14
    refine JC.skip ?_
    refine JC.seq ?_
    refine JC.blk ?_
    refine JC.reg ?_
    refine Seq.p rfl Ev.move ?_
    refine Seq.p rfl Ev.move ?_
    refine Seq.p rfl (Ev.addN (m := 171) (c := i)) ?_
    refine Seq.p rfl (Ev.convU8 it.int it.uint8) ?_
    refine Seq.buildSlN [_] (hsl := sl.sl_uint8) (hz := z.uint8) (k := ?_); intro b21
    refine Seq.append (hsl := sl.sl_uint8) (he := el.uint8) (hsrc := (fun w' hw => Src.box (hl := by rfl) (hc := fun q u hu => hu) sl.sl_uint8 At.z hw)) (k := ?_); intro A22 c22
    refine Seq.p rfl Ev.assign ?_
    refine Seq.nil ?_
    refine JC.reg ?_
    refine Seq.p rfl Ev.move ?_
    refine Seq.p rfl (by first | exact Ev.inc | exact Ev.add) ?_
    refine Seq.p rfl Ev.assign ?_
    refine Seq.nil ?_
    refine ⟨i + 1, _, Part.skip (Part.refl _), ⟨A22, c22, Has.mk (by repeat (first | refine Off.upd ?_ rfl | exact Off.mix | refine Off.mix2 ?_ rfl | exact Off.refl)) (allLook_cons (by repeat (first | exact Look.here | apply Look.there (hne := rfl) | exact Look.const | apply Look.mix rfl | exact Look.arg0 | apply Look.args | exact Look.func)) (allLook_cons (by repeat (first | exact Look.here | apply Look.there (hne := rfl) | exact Look.const | apply Look.mix rfl | exact Look.arg0 | apply Look.args | exact Look.func)) allLook_nil)), ?_, by omega⟩, by omega⟩
    unfold bytesC
    rw [markN_succ, ← List.append_assoc, List.length_append, List.length_append, hm, List.flatMap_append (xs := l ++ markN i)]
    rfl
  · -- else_t14
    obtain rfl : i = 32 := by omega
    refine JC.exit ?_ -- 0
    refine JC.rs ?_
    refine Seq.p rfl Ev.move ?_
    refine Seq.p rfl Ev.move ?_
    refine Seq.p rfl (Ev.lenSl sl.sl_uint8 (hr := hr.r)) ?_
    refine Seq.p rfl (Ev.cut (α := Int) (enc := byteEnc) (xs := l ++ markN 32) sl.sl_uint8 (hr := RAt.own (hm := by rw [List.length_append, hm]) (hs := by rw [List.length_append, hm]; omega)) (l := 0) (h := l.length) (hlo := rfl) (hhi := ⟨_, (by repeat (first | exact Look.here | apply Look.there (hne := rfl) | exact Look.const | apply Look.mix rfl | exact Look.arg0 | apply Look.args | exact Look.func))⟩) (h2 := by rw [List.length_append]; omega)) ?_
    refine Seq.p rfl Ev.move ?_
    refine Seq.p rfl Ev.assign ?_
    refine Seq.p rfl Ev.assign ?_
    refine Seq.nil ?_
    refine JC.ret ?_
    -- return 0
    show retQ _ _ _ _ _ _ _ _
    refine ret2 (hp := Part.refl _) (hpost := ?_)
    exact ⟨A, c, rfl, by unfold bytesC; rw [List.length_append, hm]⟩
set_option maxHeartbeats 2000000 in
set_option maxRecDepth 100000 in
theorem lawKept {w : World} {va v : Value} {l : List Int} (ha : RSl byteEnc 1 w [] va (l ++ markN 32)) (hr : RSl byteEnc 1 w [] v l) (hl : l.length ≤ 140737488351232) :
    Spec Go.Proofs.Tryd.prog 19 #[va, v] w [] (fun u _ => u = .bool true) := by
  have hal : (l ++ markN 32).length = l.length + 32 := by rw [List.length_append, markN_len]
  have hg1 : ∀ i, i < l.length → (l ++ markN 32)[i]! = l[i]! := fun i h => by
    rw [getElem!_pos _ i (by omega), getElem!_pos l i h, List.getElem_append_left h]
  have hg2 : ∀ i, l.length ≤ i → i < l.length + 32 → (l ++ markN 32)[i]! = ((171 + (i - l.length) : Nat) : Int) := fun i h h2 => by
    rw [getElem!_pos _ i (by omega), List.getElem_append_right h, ← markN_get (i := 32) (by omega), getElem!_pos (markN 32) _ (by rw [markN_len]; omega)]
  generalize hxs : l ++ markN 32 = xs at ha hal hg1 hg2
  refine Spec.enter (fn := Go.Proofs.Tryd.f19) (n := 46) [va, v] Go.Proofs.Tryd.func19 (by kernel_rfl) rfl Go.Proofs.Tryd.ntmps19 Go.Proofs.Tryd.results19 rfl (Own.nil _) ?_
  refine JC.rs ?_
  refine Seq.p rfl Ev.assign ?_
  refine Seq.nil ?_
  refine JC.seq ?_
  refine JC.rs ?_
  refine Seq.p rfl Ev.assign ?_
  refine Seq.nil ?_
  refine JC.blk ?_
  refine JC.loop (α := Nat) (I := fun i e1 H1 => Has [4, 5, 6, 7, 8, 9, 10, 11, 12, 13, 14, 15, 16, 17, 18, 19, 20, 21, 22, 23, 24, 25, 26, 27, 28, 29, 30, 31, 32, 33, 34, 35, 36, 37, 38, 39, 40, 41, 42, 43, 44, 45] [(5, .int .i64 (i : Int))] _ e1 ∧ H1 = _ ∧ i ≤ xs.length) (μ := fun i => xs.length - i) 0 ⟨Has.mk Off.refl (allLook_cons (by repeat (first | exact Look.here | apply Look.there (hne := rfl) | exact Look.const | apply Look.mix rfl | exact Look.arg0 | apply Look.args | exact Look.func)) allLook_nil), rfl, by omega⟩ ?_
  rintro i _ _ ⟨⟨u, rfl⟩, rfl, hi⟩; dsimp only [setL]
  refine JC.seq ?_
  refine JC.rs ?_
  refine Seq.p rfl Ev.move ?_
  refine Seq.p rfl Ev.move ?_
  refine Seq.p rfl (Ev.lenSl sl.sl_uint8 (hr := ha.r)) ?_
  refine Seq.p rfl Ev.lt ?_
  refine Seq.nil ?_
  first | refine JC.c (ht := fun c9 => ?_) (hf := fun c9 => ?_) | refine JC.cb (ht := fun c9 => ?_) (hf := fun c9 => ?_)
  · -- then_t9
    have hi2 : i < xs.length := by omega
    refine JC.skip ?_
    refine JC.seq ?_
    refine JC.blk ?_
    refine JC.qs mixed (by kernel_rfl) ?_
    refine Qui.p rfl Ev.move ?_
    refine Qui.p rfl Ev.move ?_
    refine Qui.p rfl (Ev.lenSl sl.sl_uint8 (hr := hr.r)) ?_
    refine Qui.p rfl Ev.lt ?_
    refine Qui.p rfl Ev.move ?_
    refine Qui.andG (D := [16, 17, 18, 19, 20, 21, 22, 23, 24, 25, 26]) (d := 16) (t := 26) (k := 10) (hn := fun h16 => ?_) (hx := ?_)
    · repeat (first | refine Qui.gn rfl rfl rfl rfl ?_ | refine Qui.gu rfl rfl rfl ?_)
      refine Qui.p rfl Ev.pickF ?_
      exact Qui.nil ⟨(by repeat (first | with_reducible exact Off.refl | refine Off.upd ?_ rfl | exact Off.mix | refine Off.mix2 ?_ rfl)), Look.here⟩
    apply Exists.intro
    refine ⟨fun h16 => ?_, fun u26 => ?_⟩
    · try simp only [decide_eq_true_eq, decide_eq_false_iff_not, Bool.and_eq_true, Bool.or_eq_true, Bool.not_eq_true', Bool.not_eq_false', Bool.or_eq_false_iff, Bool.and_eq_false_imp] at h16
      refine Qui.gy rfl rfl rfl ?_
      refine Qui.p rfl Ev.move ?_
      refine Qui.gy rfl rfl rfl ?_
      refine Qui.p rfl Ev.move ?_
      refine Qui.gy rfl rfl rfl ?_
      refine Qui.p rfl (Ev.iaN sl.sl_uint8 (hr := ha.r)) ?_
      refine Qui.gy rfl rfl rfl ?_
      refine Qui.p rfl (Ev.ldE1 sc.uint8 (hr := ha.r)) ?_
      refine Qui.gy rfl rfl rfl ?_
      refine Qui.p rfl Ev.move ?_
      refine Qui.gy rfl rfl rfl ?_
      refine Qui.p rfl Ev.move ?_
      refine Qui.gy rfl rfl rfl ?_
      refine Qui.p rfl (Ev.iaN sl.sl_uint8 (hr := hr.r)) ?_
      refine Qui.gy rfl rfl rfl ?_
      refine Qui.p rfl (Ev.ldE1 sc.uint8 (hr := hr.r)) ?_
      refine Qui.gy rfl rfl rfl ?_
      refine Qui.p rfl Ev.ne ?_
      refine Qui.p rfl Ev.pickT ?_
      exact Qui.nil ⟨(by repeat (first | with_reducible exact Off.refl | refine Off.upd ?_ rfl | exact Off.mix | refine Off.mix2 ?_ rfl)), Look.here⟩
    refine Qui.p rfl Ev.move ?_
    refine Qui.orG (D := [27, 28, 29, 30, 31, 32, 33, 34, 35, 36, 37, 38, 39, 40, 41, 42, 43, 44, 45]) (d := 27) (t := 45) (k := 18) (hn := fun h27 => ?_) (hx := ?_)
    · repeat (first | refine Qui.gn rfl rfl rfl rfl ?_ | refine Qui.gu rfl rfl rfl ?_)
      refine Qui.p rfl Ev.pickT ?_
      exact Qui.nil ⟨(by repeat (first | with_reducible exact Off.refl | refine Off.upd ?_ rfl | exact Off.mix | refine Off.mix2 ?_ rfl)), Look.here⟩
    apply Exists.intro
    refine ⟨fun h27 => ?_, fun u45 => ?_⟩
    · try simp only [decide_eq_true_eq, decide_eq_false_iff_not, Bool.and_eq_true, Bool.or_eq_true, Bool.not_eq_true', Bool.not_eq_false', Bool.or_eq_false_iff, Bool.and_eq_false_imp] at h27
      refine Qui.gy rfl rfl rfl ?_
      refine Qui.p rfl Ev.move ?_
      refine Qui.gy rfl rfl rfl ?_
      refine Qui.p rfl Ev.move ?_
      refine Qui.gy rfl rfl rfl ?_
      refine Qui.p rfl (Ev.lenSl sl.sl_uint8 (hr := hr.r)) ?_
      refine Qui.gy rfl rfl rfl ?_
      refine Qui.p rfl Ev.ge ?_
      refine Qui.gy rfl rfl rfl ?_
      refine Qui.p rfl Ev.move ?_
      refine Qui.andG (D := [32, 33, 34, 35, 36, 37, 38, 39, 40, 41, 42, 43, 44]) (d := 32) (t := 44) (k := 12) (hn := fun h32 => ?_) (hx := ?_)
      · repeat (first | refine Qui.gn rfl rfl rfl rfl ?_ | refine Qui.gu rfl rfl rfl ?_)
        refine Qui.gy rfl rfl rfl ?_
        refine Qui.p rfl Ev.pickF ?_
        exact Qui.nil ⟨(by repeat (first | with_reducible exact Off.refl | refine Off.upd ?_ rfl | exact Off.mix | refine Off.mix2 ?_ rfl)), Look.here⟩
      apply Exists.intro
      refine ⟨fun h32 => ?_, fun u44 => ?_⟩
      · try simp only [decide_eq_true_eq, decide_eq_false_iff_not, Bool.and_eq_true, Bool.or_eq_true, Bool.not_eq_true', Bool.not_eq_false', Bool.or_eq_false_iff, Bool.and_eq_false_imp] at h32
        refine Qui.gy rfl rfl rfl ?_
        refine Qui.p rfl Ev.move ?_
        refine Qui.gy rfl rfl rfl ?_
        refine Qui.p rfl Ev.move ?_
        refine Qui.gy rfl rfl rfl ?_
        refine Qui.p rfl (Ev.iaN sl.sl_uint8 (hr := ha.r)) ?_
        refine Qui.gy rfl rfl rfl ?_
        refine Qui.p rfl (Ev.ldE1 sc.uint8 (hr := ha.r)) ?_
        refine Qui.gy rfl rfl rfl ?_
        refine Qui.p rfl Ev.move ?_
        refine Qui.gy rfl rfl rfl ?_
        refine Qui.p rfl Ev.add ?_
        refine Qui.gy rfl rfl rfl ?_
        refine Qui.p rfl Ev.move ?_
        refine Qui.gy rfl rfl rfl ?_
        refine Qui.p rfl (Ev.lenSl sl.sl_uint8 (hr := hr.r)) ?_
        refine Qui.gy rfl rfl rfl ?_
        refine Qui.p rfl Ev.sub ?_
        refine Qui.gy rfl rfl rfl ?_
        refine Qui.p rfl (Ev.convU8 it.int it.uint8) ?_
        refine Qui.gy rfl rfl rfl ?_
        refine Qui.p rfl Ev.ne ?_
        refine Qui.gy rfl rfl rfl ?_
        refine Qui.p rfl Ev.pickT ?_
        exact Qui.nil ⟨(by repeat (first | with_reducible exact Off.refl | refine Off.upd ?_ rfl | exact Off.mix | refine Off.mix2 ?_ rfl)), Look.here⟩
      refine Qui.p rfl Ev.pickF ?_
      exact Qui.nil ⟨(by repeat (first | with_reducible exact Off.refl | refine Off.upd ?_ rfl | exact Off.mix | refine Off.mix2 ?_ rfl)), Look.here⟩
    refine Qui.nil ?_
    first | refine JC.c (ht := fun c45 => ?_) (hf := fun c45 => ?_) | refine JC.cb (ht := fun c45 => ?_) (hf := fun c45 => ?_)
    · -- then_t45
      exfalso
      simp only [Bool.or_eq_true, Bool.and_eq_true, decide_eq_true_eq] at c45
      rcases c45 with ⟨h1, h2⟩ | ⟨h1, h2⟩
      · exact h2 (hg1 i (by omega))
      · exact h2 (by rw [hg2 i (by omega) (by omega)]; omega)
    · -- else_t45
      refine JC.skip ?_
      refine JC.reg ?_
      refine Seq.p rfl Ev.move ?_
      refine Seq.p rfl (by first | exact Ev.inc | exact Ev.add) ?_
      refine Seq.p rfl Ev.assign ?_
      refine Seq.nil ?_
      exact ⟨i + 1, _, Part.refl _, ⟨Has.mk (by repeat (first | refine Off.upd ?_ rfl | exact Off.mix | refine Off.mix2 ?_ rfl | exact Off.refl)) (allLook_cons (by repeat (first | exact Look.here | apply Look.there (hne := rfl) | exact Look.const | apply Look.mix rfl | exact Look.arg0 | apply Look.args | exact Look.func)) allLook_nil), rfl, by omega⟩, by omega⟩
  · -- else_t9
    refine JC.exit ?_ -- 0
    refine JC.rs ?_
    refine Seq.p rfl Ev.assign ?_
    refine Seq.nil ?_
    refine JC.ret ?_
    -- return 0
    show retQ _ _ _ _ _ _ _ _
    refine ret1 (hp := Part.nil _) (hpost := ?_)
    rfl
set_option maxHeartbeats 1000000 in
set_option maxRecDepth 100000 in
theorem lawFull {w : World} {A : Option Addr} {c : Nat} {l : List Int} {k : Int} (hl : l.length ≤ 140737488351232) (ho : Own w [bytesC (.slice A l.length c) l]) :
    Spec Go.Proofs.Tryd.prog 22 #[.slice A l.length c, .int .u8 k] w [bytesC (.slice A l.length c) l] (fun u H' => H' = []) := by
  refine Spec.enter (fn := Go.Proofs.Tryd.f22) (n := 24) [.slice A l.length c, .int .u8 k] Go.Proofs.Tryd.func22 (by kernel_rfl) rfl Go.Proofs.Tryd.ntmps22 Go.Proofs.Tryd.results22 rfl ho ?_
  refine JC.seq ?_
  refine JC.rs ?_
  refine Seq.p rfl Ev.assign ?_
  refine Seq.nil ?_
  refine JC.blk ?_
  refine JC.loop (α := Nat × List Int) (I := fun s e1 H1 => Has [4, 6, 7, 8, 9, 10, 11, 12, 13, 14, 15] [(4, .int .i64 (s.1 : Int))] _ e1 ∧ H1 = [bytesC (.slice A l.length c) s.2] ∧ s.1 ≤ l.length ∧ s.2.length = l.length) (μ := fun s => l.length - s.1) (0, l) ⟨Has.mk Off.refl (allLook_cons (by repeat (first | exact Look.here | apply Look.there (hne := rfl) | exact Look.const | apply Look.mix rfl | exact Look.arg0 | apply Look.args | exact Look.func)) allLook_nil), rfl, by omega, rfl⟩ ?_
  rintro ⟨i, l'⟩ _ _ ⟨⟨u, rfl⟩, rfl, hi, hl'⟩; dsimp only [setL]; dsimp only at hi hl'
  refine JC.seq ?_
  refine JC.rs ?_
  refine Seq.p rfl Ev.move ?_
  refine Seq.p rfl Ev.move ?_
  refine Seq.p rfl (Ev.lenSl sl.sl_uint8 (hr := RAt.own (enc := byteEnc) (xs := l'))) ?_
  refine Seq.p rfl Ev.lt ?_
  refine Seq.nil ?_
  first | refine JC.c (ht := fun c9 => ?_) (hf := fun c9 => ?_) | refine JC.cb (ht := fun c9 => ?_) (hf := fun c9 => ?_)
  · -- then_t9
    have hi2 : i < l'.length := by omega
    refine JC.skip ?_
    refine JC.seq ?_
    refine JC.blk ?_
    refine JC.reg ?_
    refine Seq.p rfl Ev.move ?_
    refine Seq.p rfl Ev.move ?_
    refine Seq.p rfl Ev.move ?_
    refine Seq.p rfl (Ev.iaN sl.sl_uint8 (hr := RAt.own (enc := byteEnc) (xs := l'))) ?_
    refine Seq.stOwn (enc := byteEnc) (xs := l') (q := i) k sz.uint8 (by decide) (h1 := byteOne) (k := ?_)
    refine Seq.nil ?_
    refine JC.reg ?_
    refine Seq.p rfl Ev.move ?_
    refine Seq.p rfl (by first | exact Ev.inc | exact Ev.add) ?_
    refine Seq.p rfl Ev.assign ?_
    refine Seq.nil ?_
    refine ⟨(i + 1, l'.set i k), _, Part.refl _, ⟨Has.mk (by repeat (first | refine Off.upd ?_ rfl | exact Off.mix | refine Off.mix2 ?_ rfl | exact Off.refl)) (allLook_cons (by repeat (first | exact Look.here | apply Look.there (hne := rfl) | exact Look.const | apply Look.mix rfl | exact Look.arg0 | apply Look.args | exact Look.func)) allLook_nil), rfl, by show i + 1 ≤ l.length; omega, by show (l'.set i k).length = _; rw [List.length_set]; exact hl'⟩, by show l.length - (i + 1) < l.length - i; omega⟩
  · -- else_t9
    refine JC.exit ?_ -- 0
    refine JC.rs ?_
    refine Seq.p rfl Ev.assign ?_
    refine Seq.nil ?_
    refine JC.blk ?_
    refine JC.loop (α := Nat) (I := fun i e1 H1 => ∃ A c zs, Has [0, 5, 16, 17, 18, 19, 20, 21, 22, 23] [(0, .slice A (l.length + i) c), (5, .int .i64 (i : Int))] _ e1 ∧ H1 = [.own 5 1 (.slice A (l.length + i) c) (l.length + i) zs] ∧ i ≤ 90) (μ := fun i => 90 - i) 0 ⟨A, c, l'.flatMap byteEnc, Has.mk Off.refl (allLook_cons (by repeat (first | exact Look.here | apply Look.there (hne := rfl) | exact Look.const | apply Look.mix rfl | exact Look.arg0 | apply Look.args | exact Look.func)) (allLook_cons (by repeat (first | exact Look.here | apply Look.there (hne := rfl) | exact Look.const | apply Look.mix rfl | exact Look.arg0 | apply Look.args | exact Look.func)) allLook_nil)), by unfold bytesC; rw [hl']; rfl, by omega⟩ ?_
    rintro i2 _ _ ⟨A2, c2, zs, ⟨u2, rfl⟩, rfl, hi3⟩; dsimp only [setL]
    refine JC.seq ?_
    refine JC.rs ?_
    refine Seq.p rfl Ev.move ?_
    refine Seq.p rfl Ev.lt ?_
    refine Seq.nil ?_
    first | refine JC.c (ht := fun c17 => ?_) (hf := fun c17 => ?_) | refine JC.cb (ht := fun c17 => ?_) (hf := fun c17 => ?_)
    · -- then_t17
      refine JC.skip ?_
      refine JC.seq ?_
      refine JC.blk ?_
      refine JC.reg ?_
      refine Seq.p rfl Ev.move ?_
      refine Seq.p rfl Ev.move ?_
      refine Seq.buildSlN [_] (hsl := sl.sl_uint8) (hz := z.uint8) (k := ?_); intro b22
      refine Seq.append (hsl := sl.sl_uint8) (he := el.uint8) (hsrc := (fun w' hw => Src.box (hl := by rfl) (hc := fun q u hu => hu) sl.sl_uint8 At.z hw)) (k := ?_); intro A23 c23
      refine Seq.p rfl Ev.assign ?_
      refine Seq.nil ?_
      refine JC.reg ?_
      refine Seq.p rfl Ev.move ?_
      refine Seq.p rfl (by first | exact Ev.inc | exact Ev.add) ?_
      refine Seq.p rfl Ev.assign ?_
      refine Seq.nil ?_
      exact ⟨i2 + 1, _, Part.skip (Part.refl _), ⟨A23, c23, _, Has.mk (by repeat (first | refine Off.upd ?_ rfl | exact Off.mix | refine Off.mix2 ?_ rfl | exact Off.refl)) (allLook_cons (by repeat (first | exact Look.here | apply Look.there (hne := rfl) | exact Look.const | apply Look.mix rfl | exact Look.arg0 | apply Look.args | exact Look.func)) (allLook_cons (by repeat (first | exact Look.here | apply Look.there (hne := rfl) | exact Look.const | apply Look.mix rfl | exact Look.arg0 | apply Look.args | exact Look.func)) allLook_nil)), rfl, by omega⟩, by omega⟩
    · -- else_t17
      refine JC.exit ?_ -- 2
      -- return 0
      first | show retQ _ _ _ _ _ .normal _ _ | (simp only [thenQ, blockQ, ↓reduceIte]; show retQ _ _ _ _ _ .normal _ _)
      exact ⟨[], [], RVs.nil, Part.nil _, rfl⟩
      skip
end Go.Rx
