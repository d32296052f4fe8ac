/- The law bourselaw03.TextReaders gives true. -/
import Derived.Test.YtcggppjpnepoiaaDoorX3
namespace Go.Rx
open Go Go.RowKit Go.Lib Go.Proofs.YtcggppjpnepoiaaDoor
set_option linter.unusedVariables false
set_option linter.unusedSimpArgs false
structure Pc where
  v : Value
  l : List Int
  asks : Int
deriving Inhabited
def Pc.enc (p : Pc) : List Value := [p.v, .int .i64 p.asks]
theorem get_mem {α : Type} [Inhabited α] {xs : List α} {i : Nat} (h : i < xs.length) : xs[i]! ∈ xs := by
  rw [getElem!_pos xs i h]
  exact List.getElem_mem _
set_option maxHeartbeats 8000000 in
set_option maxRecDepth 100000 in
theorem lawReaders {w : World} {v : Value} {ps : List Pc} (hr : RSl Pc.enc 2 w [] v ps) (hp : ∀ p ∈ ps, RSl byteEnc 1 w [] p.v p.l ∧ isBytes p.l ∧ p.l.length ≤ 140737488351232) (hL : Laid2 w) :
    Spec Go.Proofs.Tryd.prog 8 #[v] w [] (fun u _ => u = .bool true) := by
  have hsm := hr.small
  refine Spec.enter (fn := Go.Proofs.Tryd.f8) (n := 131) [v] Go.Proofs.Tryd.func8 (by kernel_rfl) rfl Go.Proofs.Tryd.ntmps8 Go.Proofs.Tryd.results8 rfl (Own.nil _) ?_
  refine JC.rs ?_
  refine Seq.p rfl Ev.assign ?_
  refine Seq.nil ?_
  refine JC.rs ?_
  refine Seq.call rfl (fun w' hw => readerNew) (F := []) (by exact List.Perm.refl _) ?_
  rintro _ _ ⟨b, rfl, rfl⟩
  simp only [List.cons_append, List.nil_append]
  refine Seq.re (fun w h => h.nilOwn 5 1) ?_
  refine Seq.p rfl Ev.assign ?_
  refine Seq.nil ?_
  refine JC.seq ?_
  refine JC.rs ?_
  refine Seq.p rfl Ev.move ?_
  refine Seq.p rfl (Ev.eqNilP und.p_text_Reader) ?_
  refine Seq.p rfl Ev.move ?_
  refine Seq.orG (D := [25, 26, 27, 28, 29]) (d := 25) (t := 29) (k := 4) (hn := fun h25 => ?_) (hx := ?_)
  · repeat (first | refine Seq.gn rfl rfl rfl rfl ?_ | refine Seq.gu rfl rfl rfl ?_)
    refine Seq.p rfl Ev.pickT ?_
    exact Seq.nil ⟨rfl, (by repeat (first | with_reducible exact Off.refl | refine Off.upd ?_ rfl | exact Off.mix | refine Off.mix2 ?_ rfl)), Look.here⟩
  apply Exists.intro
  refine ⟨fun h25 => ?_, fun u29 => ?_⟩
  · try simp only [decide_eq_true_eq, decide_eq_false_iff_not, Bool.and_eq_true, Bool.or_eq_true, Bool.not_eq_true', Bool.not_eq_false', Bool.or_eq_false_iff, Bool.and_eq_false_imp] at h25
    refine Seq.gy rfl rfl rfl ?_
    refine Seq.p rfl Ev.move ?_
    refine Seq.gy rfl rfl rfl ?_
    refine Seq.callP rfl (fun w' hw => readerWaiting (h := []) (box_cell hw (by repeat (first | exact At.z | apply At.s)) rfl) (RAt.up (RAt.own (enc := byteEnc) (xs := [])) hw)) ?_
    refine Seq.gy rfl rfl rfl ?_
    refine Seq.p rfl Ev.ne ?_
    refine Seq.p rfl Ev.pickF ?_
    exact Seq.nil ⟨rfl, (by repeat (first | with_reducible exact Off.refl | refine Off.upd ?_ rfl | exact Off.mix | refine Off.mix2 ?_ rfl)), Look.here⟩
  refine Seq.nil ?_
  first | refine JC.c (ht := fun c29 => ?_) (hf := fun c29 => ?_) | refine JC.cb (ht := fun c29 => ?_) (hf := fun c29 => ?_)
  · -- then_t29
    exfalso
    simp at c29
  · -- else_t29
    refine JC.skip ?_
    refine JC.rs ?_
    refine Seq.buildSl (cs := []) (hsl := sl.sl_uint8) (hz := z.uint8) (hcs := rfl) (k := ?_); intro b30
    refine Seq.re (fun w h => Upd.boxOwn h (n := 0) (size := 1) At.z rfl (by omega)) ?_
    refine Seq.p rfl Ev.assign ?_
    refine Seq.nil ?_
    refine JC.seq ?_
    refine JC.rs ?_
    refine Seq.p rfl Ev.assign ?_
    refine Seq.nil ?_
    refine JC.blk ?_
    refine JC.part (H' := [readerC b (.slice none 0 0), bytesC (.slice none 0 0) [], bytesC (.slice (some ⟨b30, 0, none⟩) 0 0) []]) (by repeat (first | exact Part.nil _ | refine Part.at (by repeat (first | exact At.z | apply At.s)) ?_)) ?_
    refine JC.loop (α := Nat) (I := fun i e1 H1 => ∃ A c A2 c2 h, Has [2, 4, 5, 6, 7, 8, 9, 10, 11, 12, 13, 14, 15, 16, 17, 18, 19, 20, 21, 31, 32, 33, 34, 35, 36, 37, 38, 39, 40, 41, 42, 43, 44, 45, 46, 47, 48, 49, 50, 51, 52, 53, 54, 55, 56, 57, 58, 59, 60, 61, 62, 63, 64, 65, 66, 67, 68, 69, 70, 71, 72, 73, 74, 75, 76, 77, 78, 79, 80, 81, 82, 83, 84, 85, 86, 87, 88, 89, 90, 91, 92, 93, 94, 95, 96, 97, 98, 99, 100, 101, 102, 103, 104, 105, 106, 107, 108, 109, 110, 111, 112, 113, 114, 115, 116, 117, 118, 119, 120, 121, 122, 123, 124, 125, 126, 127, 128, 129, 130] [(4, .slice A2 h.length c2), (5, .int .i64 (i : Int))] _ e1 ∧ H1 = [readerC b (.slice A h.length c), bytesC (.slice A h.length c) h, bytesC (.slice A2 h.length c2) h] ∧ i ≤ ps.length ∧ h.length ≤ 65536 ∧ isBytes h) (μ := fun i => ps.length - i) 0 ⟨none, 0, some ⟨b30, 0, none⟩, 0, [], Has.mk Off.refl (allLook_cons (by repeat (first | exact Look.here | apply Look.there (hne := rfl) | exact Look.const | apply Look.mix rfl | exact Look.arg0 | apply Look.args | exact Look.func)) (allLook_cons (by repeat (first | exact Look.here | apply Look.there (hne := rfl) | exact Look.const | apply Look.mix rfl | exact Look.arg0 | apply Look.args | exact Look.func)) allLook_nil)), rfl, by omega, Nat.zero_le _, by intro x hx; cases hx⟩ ?_
    rintro i _ _ ⟨A, c, A2, c2, h, ⟨u, rfl⟩, rfl, hi, hh, hB⟩; dsimp only [setL]
    refine JC.seq ?_
    refine JC.rs ?_
    refine Seq.p rfl Ev.move ?_
    refine Seq.p rfl Ev.move ?_
    refine Seq.p rfl (Ev.lenSl sl.sl_bourselaw03_Piece (hr := hr.r)) ?_
    refine Seq.p rfl Ev.lt ?_
    refine Seq.nil ?_
    first | refine JC.c (ht := fun c34 => ?_) (hf := fun c34 => ?_) | refine JC.cb (ht := fun c34 => ?_) (hf := fun c34 => ?_)
    · -- then_t34
      have hi2 : i < ps.length := by omega
      obtain ⟨hb1, hb2, hb3⟩ := hp _ (get_mem hi2)
      have hal : ((ps[i]!).l ++ markN 32).length = (ps[i]!).l.length + 32 := by rw [List.length_append, markN_len]
      refine JC.skip ?_
      refine JC.seq ?_
      refine JC.blk ?_
      refine JC.rs ?_
      refine Seq.p rfl Ev.move ?_
      refine Seq.p rfl Ev.move ?_
      refine Seq.p rfl (Ev.iaN sl.sl_bourselaw03_Piece (hr := hr.r)) ?_
      refine Seq.p rfl (Ev.fa fd.bourselaw03_Piece_0) ?_
      refine Seq.p rfl (Ev.ldE sc.sl_uint8 (hr := hr.r)) ?_
      refine Seq.p rfl Ev.assign ?_
      refine Seq.nil ?_
      refine JC.rs ?_
      refine Seq.p rfl Ev.move ?_
      refine Seq.call rfl (fun w' hw => lawLent (hb1.up hw) hb3) (F := _) (by exact List.Perm.refl _) ?_
      rintro _ _ ⟨A3, c3, rfl, rfl⟩
      simp only [List.cons_append, List.nil_append]
      refine Seq.p rfl Ev.move ?_
      refine Seq.p rfl Ev.extract ?_
      refine Seq.p rfl Ev.extract ?_
      refine Seq.p rfl Ev.assign ?_
      refine Seq.p rfl Ev.assign ?_
      refine Seq.nil ?_
      refine JC.rs ?_
      refine Seq.p rfl Ev.move ?_
      refine Seq.p rfl Ev.move ?_
      refine Seq.call rfl (fun w' hw => readerFeed ((lentSub (v := .slice A3 ((ps[i]!).l.length + 32) c3) (RSl.owned (enc := byteEnc) (xs := (ps[i]!).l ++ markN 32) At.z hw rfl rfl (fun _ => rfl) (by omega))).part (by repeat (first | exact Part.nil _ | refine Part.at (by repeat (first | exact At.z | apply At.s)) ?_))) (hw.part (by repeat (first | exact Part.nil _ | refine Part.at (by repeat (first | exact At.z | apply At.s)) ?_))).own hh) (Gs := [readerC b (.slice A h.length c), bytesC (.slice A h.length c) h]) (F := [_, _]) (by exact (List.perm_append_comm (l₁ := [_, _]) (l₂ := [_])).append_right [_]) ?_
      rintro _ _ ⟨A4, c4, rfl, rfl⟩
      simp only [List.cons_append, List.nil_append]
      refine Seq.p rfl Ev.assign ?_
      refine Seq.nil ?_
      refine JC.seq ?_
      refine JC.rs ?_
      refine Seq.p rfl Ev.move ?_
      refine Seq.p rfl Ev.move ?_
      refine Seq.callP rfl (fun w hw => lawKept (RAt.up (RAt.own (enc := byteEnc) (xs := (ps[i]!).l ++ markN 32)) hw) (hb1.up hw) hb3) ?_
      refine Seq.p rfl Ev.not ?_
      refine Seq.nil ?_
      first | refine JC.c (ht := fun c53 => ?_) (hf := fun c53 => ?_) | refine JC.cb (ht := fun c53 => ?_) (hf := fun c53 => ?_)
      · -- then_t53
        exfalso
        simp at c53
      · -- else_t53
        refine JC.skip ?_
        refine JC.rs ?_
        refine Seq.p rfl Ev.move ?_
        refine Seq.re (fun w h => lentCut h (At.s (At.s At.z))) ?_
        obtain ⟨A5, q5, h5⟩ : ∃ A c, subSl (.slice A3 ((ps[i]!).l.length + 32) c3) 0 (ps[i]!).l.length 1 = .slice A (ps[i]!).l.length c := ⟨_, _, rfl⟩
        rw [h5]
        refine Seq.call rfl (fun w hw => lawFull hb3 (hw.part (by repeat (first | exact Part.nil _ | refine Part.at (by repeat (first | exact At.z | apply At.s)) ?_))).own) (Gs := [bytesC (.slice A5 (ps[i]!).l.length q5) (ps[i]!).l]) (F := [_, _, _]) (by exact (List.perm_append_comm (l₁ := [_]) (l₂ := [_, _])).append_right [_]) ?_
        rintro _ _ rfl
        simp only [List.nil_append]
        refine Seq.nil ?_
        refine JC.rs ?_
        refine Seq.p rfl Ev.move ?_
        refine Seq.p rfl Ev.move ?_
        refine Seq.call rfl (fun w' hw => refFeed ((hb1.at_ hw).part (by repeat (first | exact Part.nil _ | refine Part.at (by repeat (first | exact At.z | apply At.s)) ?_))) (hw.part (by repeat (first | exact Part.nil _ | refine Part.at (by repeat (first | exact At.z | apply At.s)) ?_))).own hh hb3) (Gs := [bytesC (.slice A2 h.length c2) h]) (F := [_, _]) (by exact (List.perm_append_comm (l₁ := [_]) (l₂ := [_, _]))) ?_
        rintro _ _ ⟨A6, c6, rfl, rfl⟩
        simp only [List.cons_append, List.nil_append]
        have hfl := feedF_len (b := (ps[i]!).l) hh
        have hfb := feedF_bytes hB hb2
        generalize feedF h (ps[i]!).l = fe at hfl hfb ⊢
        refine Seq.p rfl Ev.move ?_
        refine Seq.p rfl Ev.extract ?_
        refine Seq.p rfl Ev.extract ?_
        refine Seq.p rfl Ev.assign ?_
        refine Seq.p rfl Ev.assign ?_
        refine Seq.nil ?_
        refine JC.rs ?_
        refine Seq.p rfl Ev.move ?_
        refine Seq.p rfl Ev.assign ?_
        refine Seq.nil ?_
        refine JC.seq ?_
        refine JC.rs ?_
        refine Seq.p rfl Ev.move ?_
        refine Seq.p rfl Ev.move ?_
        refine Seq.p rfl Ev.ne ?_
        refine Seq.p rfl Ev.move ?_
        refine Seq.orG (D := [66, 67, 68, 69, 70, 71, 72]) (d := 66) (t := 72) (k := 6) (hn := fun h66 => ?_) (hx := ?_)
        · repeat (first | refine Seq.gn rfl rfl rfl rfl ?_ | refine Seq.gu rfl rfl rfl ?_)
          refine Seq.p rfl Ev.pickT ?_
          exact Seq.nil ⟨rfl, (by repeat (first | with_reducible exact Off.refl | refine Off.upd ?_ rfl | exact Off.mix | refine Off.mix2 ?_ rfl)), Look.here⟩
        apply Exists.intro
        refine ⟨fun h66 => ?_, fun u72 => ?_⟩
        · try simp only [decide_eq_true_eq, decide_eq_false_iff_not, Bool.and_eq_true, Bool.or_eq_true, Bool.not_eq_true', Bool.not_eq_false', Bool.or_eq_false_iff, Bool.and_eq_false_imp] at h66
          refine Seq.gy rfl rfl rfl ?_
          refine Seq.p rfl Ev.move ?_
          refine Seq.gy rfl rfl rfl ?_
          refine Seq.callP rfl (fun w' hw => readerWaiting (h := fe.1) (box_cell hw (by repeat (first | exact At.z | apply At.s)) rfl) (RAt.up (RAt.own (enc := byteEnc) (xs := fe.1)) hw)) ?_
          refine Seq.gy rfl rfl rfl ?_
          refine Seq.p rfl Ev.move ?_
          refine Seq.gy rfl rfl rfl ?_
          refine Seq.p rfl (Ev.lenSl sl.sl_uint8 (hr := RAt.own (enc := byteEnc) (xs := fe.1))) ?_
          refine Seq.gy rfl rfl rfl ?_
          refine Seq.p rfl Ev.ne ?_
          refine Seq.p rfl Ev.pickF ?_
          exact Seq.nil ⟨rfl, (by repeat (first | with_reducible exact Off.refl | refine Off.upd ?_ rfl | exact Off.mix | refine Off.mix2 ?_ rfl)), Look.here⟩
        refine Seq.nil ?_
        first | refine JC.c (ht := fun c72 => ?_) (hf := fun c72 => ?_) | refine JC.cb (ht := fun c72 => ?_) (hf := fun c72 => ?_)
        · -- then_t72
          exfalso
          simp at c72
        · -- else_t72
          refine JC.skip ?_
          refine JC.rs ?_
          refine Seq.p rfl Ev.assign ?_
          refine Seq.nil ?_
          refine JC.blk ?_
          refine JC.part (H' := [readerC b (.slice A4 fe.1.length c4), bytesC (.slice A4 fe.1.length c4) fe.1, bytesC (.slice A6 fe.1.length c6) fe.1]) (by repeat (first | exact Part.nil _ | refine Part.at (by repeat (first | exact At.z | apply At.s)) ?_)) ?_
          refine JC.loop (α := Nat) (I := fun j e1 H1 => ∃ A c A2 c2 h, Has [2, 4, 12, 13, 14, 15, 16, 17, 18, 19, 20, 21, 73, 74, 75, 76, 77, 78, 79, 80, 81, 82, 83, 84, 85, 86, 87, 88, 89, 90, 91, 92, 93, 94, 95, 96, 97, 98, 99, 100, 101, 102, 103, 104, 105, 106, 107, 108, 109, 110, 111, 112, 113, 114, 115, 116, 117, 118, 119, 120, 121, 122, 123, 124, 125, 126, 127, 128, 129, 130] [(4, .slice A2 h.length c2), (12, .int .i64 (j : Int))] _ e1 ∧ H1 = [readerC b (.slice A h.length c), bytesC (.slice A h.length c) h, bytesC (.slice A2 h.length c2) h] ∧ h.length ≤ 65536 ∧ isBytes h) (μ := fun j => (ps[i]!).asks.toNat - j) 0 ⟨A4, c4, A6, c6, fe.1, Has.mk Off.refl (allLook_cons (by repeat (first | exact Look.here | apply Look.there (hne := rfl) | exact Look.const | apply Look.mix rfl | exact Look.arg0 | apply Look.args | exact Look.func)) (allLook_cons (by repeat (first | exact Look.here | apply Look.there (hne := rfl) | exact Look.const | apply Look.mix rfl | exact Look.arg0 | apply Look.args | exact Look.func)) allLook_nil)), rfl, hfl, hfb⟩ ?_
          rintro j _ _ ⟨A, c, A2, c2, h, ⟨u2, rfl⟩, rfl, hh, hB⟩; dsimp only [setL]
          have hnl := nextF_len h
          have hnb := nextF_bytes hB
          have hnt := nextF_tags h hh
          refine JC.seq ?_
          refine JC.rs ?_
          refine Seq.p rfl Ev.move ?_
          refine Seq.p rfl Ev.move ?_
          refine Seq.p rfl Ev.move ?_
          refine Seq.p rfl (Ev.iaN sl.sl_bourselaw03_Piece (hr := hr.r)) ?_
          refine Seq.p rfl (Ev.fa fd.bourselaw03_Piece_1) ?_
          refine Seq.p rfl (Ev.ldE sc.int (hr := hr.r)) ?_
          refine Seq.p rfl Ev.lt ?_
          refine Seq.p rfl Ev.move ?_
          refine Seq.andG (D := [80, 81, 82, 83, 84, 85, 86]) (d := 80) (t := 86) (k := 6) (hn := fun h80 => ?_) (hx := ?_)
          · repeat (first | refine Seq.gn rfl rfl rfl rfl ?_ | refine Seq.gu rfl rfl rfl ?_)
            refine Seq.p rfl Ev.pickF ?_
            exact Seq.nil ⟨rfl, (by repeat (first | with_reducible exact Off.refl | refine Off.upd ?_ rfl | exact Off.mix | refine Off.mix2 ?_ rfl)), Look.here⟩
          apply Exists.intro
          refine ⟨fun h80 => ?_, fun u86 => ?_⟩
          · try simp only [decide_eq_true_eq, decide_eq_false_iff_not, Bool.and_eq_true, Bool.or_eq_true, Bool.not_eq_true', Bool.not_eq_false', Bool.or_eq_false_iff, Bool.and_eq_false_imp] at h80
            refine Seq.gy rfl rfl rfl ?_
            refine Seq.p rfl Ev.move ?_
            refine Seq.gy rfl rfl rfl ?_
            refine Seq.p rfl Ev.move ?_
            refine Seq.gy rfl rfl rfl ?_
            refine Seq.p rfl (Ev.lenSl sl.sl_uint8 (hr := RAt.own (enc := byteEnc) (xs := h))) ?_
            refine Seq.gy rfl rfl rfl ?_
            refine Seq.p rfl (Ev.addN (m := h.length) (c := 1)) ?_
            refine Seq.gy rfl rfl rfl ?_
            refine Seq.p rfl Ev.le ?_
            refine Seq.p rfl Ev.pickT ?_
            exact Seq.nil ⟨rfl, (by repeat (first | with_reducible exact Off.refl | refine Off.upd ?_ rfl | exact Off.mix | refine Off.mix2 ?_ rfl)), Look.here⟩
          refine Seq.nil ?_
          first | refine JC.c (ht := fun c86 => ?_) (hf := fun c86 => ?_) | refine JC.cb (ht := fun c86 => ?_) (hf := fun c86 => ?_)
          · -- then_t86
            simp only [Bool.and_eq_true, decide_eq_true_eq] at c86
            refine JC.skip ?_
            refine JC.seq ?_
            refine JC.blk ?_
            refine JC.rs ?_
            refine Seq.p rfl Ev.move ?_
            refine Seq.call rfl (fun w' hw => readerNext (hw.part (by repeat (first | exact Part.nil _ | refine Part.at (by repeat (first | exact At.z | apply At.s)) ?_))) hL hB hh) (F := [_]) (by exact List.Perm.refl _) ?_
            rintro _ _ ⟨A7, c7, A8, c8, rfl, rfl⟩
            simp only [List.cons_append, List.nil_append]
            refine Seq.p rfl Ev.move ?_
            refine Seq.p rfl Ev.extract ?_
            refine Seq.p rfl Ev.extract ?_
            refine Seq.p rfl Ev.extract ?_
            refine Seq.p rfl Ev.extract ?_
            refine Seq.p rfl Ev.assign ?_
            refine Seq.p rfl Ev.assign ?_
            refine Seq.p rfl Ev.assign ?_
            refine Seq.p rfl Ev.assign ?_
            refine Seq.nil ?_
            refine JC.rs ?_
            refine Seq.p rfl Ev.move ?_
            refine Seq.call rfl (fun w' hw => refNext (hw.part (by repeat (first | exact Part.nil _ | refine Part.at (by repeat (first | exact At.z | apply At.s)) ?_))).own hB hh) (Gs := [bytesC (.slice A2 h.length c2) h]) (F := [_, _, _]) (by exact (List.perm_append_comm (l₁ := [_]) (l₂ := [_, _, _]))) ?_
            rintro _ _ ⟨A9, c9, A10, c10, rfl, rfl⟩
            simp only [List.cons_append, List.nil_append]
            generalize nextF h = nx at hnl hnb hnt ⊢
            refine Seq.p rfl Ev.move ?_
            refine Seq.p rfl Ev.extract ?_
            refine Seq.p rfl Ev.extract ?_
            refine Seq.p rfl Ev.extract ?_
            refine Seq.p rfl Ev.extract ?_
            refine Seq.p rfl Ev.extract ?_
            refine Seq.p rfl Ev.assign ?_
            refine Seq.p rfl Ev.assign ?_
            refine Seq.p rfl Ev.assign ?_
            refine Seq.p rfl Ev.assign ?_
            refine Seq.p rfl Ev.assign ?_
            refine Seq.nil ?_
            refine JC.rs ?_
            refine Seq.p rfl Ev.move ?_
            refine Seq.p rfl Ev.assign ?_
            refine Seq.nil ?_
            refine JC.rs ?_
            refine Seq.p rfl Ev.move ?_
            refine Seq.p rfl Ev.move ?_
            refine Seq.p rfl Ev.neStr ?_
            refine Seq.p rfl Ev.move ?_
            refine Seq.orG (D := [108, 109, 110, 111, 112, 113]) (d := 108) (t := 113) (k := 5) (hn := fun h108 => ?_) (hx := ?_)
            · repeat (first | refine Seq.gn rfl rfl rfl rfl ?_ | refine Seq.gu rfl rfl rfl ?_)
              refine Seq.p rfl Ev.pickT ?_
              exact Seq.nil ⟨rfl, (by repeat (first | with_reducible exact Off.refl | refine Off.upd ?_ rfl | exact Off.mix | refine Off.mix2 ?_ rfl)), Look.here⟩
            apply Exists.intro
            refine ⟨fun h108 => ?_, fun u113 => ?_⟩
            · try simp only [decide_eq_true_eq, decide_eq_false_iff_not, Bool.and_eq_true, Bool.or_eq_true, Bool.not_eq_true', Bool.not_eq_false', Bool.or_eq_false_iff, Bool.and_eq_false_imp] at h108
              refine Seq.gy rfl rfl rfl ?_
              refine Seq.p rfl Ev.move ?_
              refine Seq.gy rfl rfl rfl ?_
              refine Seq.p rfl Ev.move ?_
              refine Seq.gy rfl rfl rfl ?_
              refine Seq.callP rfl (fun w hw => lawTags (RAt.up (RAt.own (enc := Tg.enc) (xs := nx.tags)) hw) (RAt.up (RAt.own (enc := Tg.enc) (xs := nx.tags)) hw)) ?_
              refine Seq.gy rfl rfl rfl ?_
              refine Seq.p rfl Ev.not ?_
              refine Seq.p rfl Ev.pickF ?_
              exact Seq.nil ⟨rfl, (by repeat (first | with_reducible exact Off.refl | refine Off.upd ?_ rfl | exact Off.mix | refine Off.mix2 ?_ rfl)), Look.here⟩
            refine Seq.p rfl Ev.move ?_
            refine Seq.orG (D := [114, 115, 116, 117, 118]) (d := 114) (t := 118) (k := 4) (hn := fun h114 => ?_) (hx := ?_)
            · repeat (first | refine Seq.gn rfl rfl rfl rfl ?_ | refine Seq.gu rfl rfl rfl ?_)
              refine Seq.p rfl Ev.pickT ?_
              exact Seq.nil ⟨rfl, (by repeat (first | with_reducible exact Off.refl | refine Off.upd ?_ rfl | exact Off.mix | refine Off.mix2 ?_ rfl)), Look.here⟩
            apply Exists.intro
            refine ⟨fun h114 => ?_, fun u118 => ?_⟩
            · try simp only [decide_eq_true_eq, decide_eq_false_iff_not, Bool.and_eq_true, Bool.or_eq_true, Bool.not_eq_true', Bool.not_eq_false', Bool.or_eq_false_iff, Bool.and_eq_false_imp] at h114
              refine Seq.gy rfl rfl rfl ?_
              refine Seq.p rfl Ev.move ?_
              refine Seq.gy rfl rfl rfl ?_
              refine Seq.p rfl Ev.move ?_
              refine Seq.gy rfl rfl rfl ?_
              refine Seq.p rfl (Ev.neB bl.bool) ?_
              refine Seq.p rfl Ev.pickF ?_
              exact Seq.nil ⟨rfl, (by repeat (first | with_reducible exact Off.refl | refine Off.upd ?_ rfl | exact Off.mix | refine Off.mix2 ?_ rfl)), Look.here⟩
            refine Seq.p rfl Ev.move ?_
            refine Seq.orG (D := [119, 120, 121, 122, 123]) (d := 119) (t := 123) (k := 4) (hn := fun h119 => ?_) (hx := ?_)
            · repeat (first | refine Seq.gn rfl rfl rfl rfl ?_ | refine Seq.gu rfl rfl rfl ?_)
              refine Seq.p rfl Ev.pickT ?_
              exact Seq.nil ⟨rfl, (by repeat (first | with_reducible exact Off.refl | refine Off.upd ?_ rfl | exact Off.mix | refine Off.mix2 ?_ rfl)), Look.here⟩
            apply Exists.intro
            refine ⟨fun h119 => ?_, fun u123 => ?_⟩
            · try simp only [decide_eq_true_eq, decide_eq_false_iff_not, Bool.and_eq_true, Bool.or_eq_true, Bool.not_eq_true', Bool.not_eq_false', Bool.or_eq_false_iff, Bool.and_eq_false_imp] at h119
              refine Seq.gy rfl rfl rfl ?_
              refine Seq.p rfl Ev.move ?_
              refine Seq.gy rfl rfl rfl ?_
              refine Seq.p rfl Ev.move ?_
              refine Seq.gy rfl rfl rfl ?_
              refine Seq.p rfl Ev.ne ?_
              refine Seq.p rfl Ev.pickF ?_
              exact Seq.nil ⟨rfl, (by repeat (first | with_reducible exact Off.refl | refine Off.upd ?_ rfl | exact Off.mix | refine Off.mix2 ?_ rfl)), Look.here⟩
            refine Seq.p rfl Ev.move ?_
            refine Seq.orG (D := [124, 125, 126, 127, 128, 129, 130]) (d := 124) (t := 130) (k := 6) (hn := fun h124 => ?_) (hx := ?_)
            · repeat (first | refine Seq.gn rfl rfl rfl rfl ?_ | refine Seq.gu rfl rfl rfl ?_)
              refine Seq.p rfl Ev.pickT ?_
              exact Seq.nil ⟨rfl, (by repeat (first | with_reducible exact Off.refl | refine Off.upd ?_ rfl | exact Off.mix | refine Off.mix2 ?_ rfl)), Look.here⟩
            apply Exists.intro
            refine ⟨fun h124 => ?_, fun u130 => ?_⟩
            · try simp only [decide_eq_true_eq, decide_eq_false_iff_not, Bool.and_eq_true, Bool.or_eq_true, Bool.not_eq_true', Bool.not_eq_false', Bool.or_eq_false_iff, Bool.and_eq_false_imp] at h124
              refine Seq.gy rfl rfl rfl ?_
              refine Seq.p rfl Ev.move ?_
              refine Seq.gy rfl rfl rfl ?_
              refine Seq.callP rfl (fun w' hw => readerWaiting (h := nx.held) (box_cell hw (by repeat (first | exact At.z | apply At.s)) rfl) (RAt.up (RAt.own (enc := byteEnc) (xs := nx.held)) hw)) ?_
              refine Seq.gy rfl rfl rfl ?_
              refine Seq.p rfl Ev.move ?_
              refine Seq.gy rfl rfl rfl ?_
              refine Seq.p rfl (Ev.lenSl sl.sl_uint8 (hr := RAt.own (enc := byteEnc) (xs := nx.held))) ?_
              refine Seq.gy rfl rfl rfl ?_
              refine Seq.p rfl Ev.ne ?_
              refine Seq.p rfl Ev.pickF ?_
              exact Seq.nil ⟨rfl, (by repeat (first | with_reducible exact Off.refl | refine Off.upd ?_ rfl | exact Off.mix | refine Off.mix2 ?_ rfl)), Look.here⟩
            refine Seq.nil ?_
            first | refine JC.c (ht := fun c130 => ?_) (hf := fun c130 => ?_) | refine JC.cb (ht := fun c130 => ?_) (hf := fun c130 => ?_)
            · -- then_t130
              exfalso
              simp at c130
            · -- else_t130
              refine JC.skip ?_
              refine JC.reg ?_
              refine Seq.p rfl Ev.move ?_
              refine Seq.p rfl (by first | exact Ev.inc | exact Ev.add) ?_
              refine Seq.p rfl Ev.assign ?_
              refine Seq.nil ?_
              exact ⟨j + 1, [readerC b (.slice A8 nx.held.length c8), bytesC (.slice A8 nx.held.length c8) nx.held, bytesC (.slice A10 nx.held.length c10) nx.held], (by repeat (first | exact Part.nil _ | refine Part.at (by repeat (first | exact At.z | apply At.s)) ?_)), ⟨A8, c8, A10, c10, nx.held, Has.mk (by repeat (first | refine Off.upd ?_ rfl | exact Off.mix | refine Off.mix2 ?_ rfl | exact Off.refl)) (allLook_cons (by repeat (first | exact Look.here | apply Look.there (hne := rfl) | exact Look.const | apply Look.mix rfl | exact Look.arg0 | apply Look.args | exact Look.func)) (allLook_cons (by repeat (first | exact Look.here | apply Look.there (hne := rfl) | exact Look.const | apply Look.mix rfl | exact Look.arg0 | apply Look.args | exact Look.func)) allLook_nil)), rfl, by omega, hnb⟩, by omega⟩
          · -- else_t86
            refine JC.exit ?_ -- 2
            refine JC.reg ?_
            refine Seq.p rfl Ev.move ?_
            refine Seq.p rfl (by first | exact Ev.inc | exact Ev.add) ?_
            refine Seq.p rfl Ev.assign ?_
            refine Seq.nil ?_
            exact ⟨i + 1, _, Part.refl _, ⟨A, c, A2, c2, h, Has.mk (by repeat (first | refine Off.upd ?_ rfl | exact Off.mix | refine Off.mix2 ?_ rfl | exact Off.refl)) (allLook_cons (by repeat (first | exact Look.here | apply Look.there (hne := rfl) | exact Look.const | apply Look.mix rfl | exact Look.arg0 | apply Look.args | exact Look.func)) (allLook_cons (by repeat (first | exact Look.here | apply Look.there (hne := rfl) | exact Look.const | apply Look.mix rfl | exact Look.arg0 | apply Look.args | exact Look.func)) allLook_nil)), rfl, by omega, hh, hB⟩, by omega⟩
    · -- else_t34
      refine JC.exit ?_ -- 0
      refine JC.rs ?_
      refine Seq.p rfl Ev.assign ?_
      refine Seq.nil ?_
      refine JC.ret ?_
      -- return 0
      show retQ _ _ _ _ _ _ _ _
      refine ret1 (hp := Part.nil _) (hpost := ?_)
      rfl
end Go.Rx
