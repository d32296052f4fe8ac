/- A reader's calls, walked: NewReader, Waiting, Feed, drop, foot. -/
import Derived.Test.YtcggppjpnepoiaaDoorX1
namespace Go.Rx
open Go Go.RowKit Go.Lib Go.Proofs.YtcggppjpnepoiaaDoor
set_option linter.unusedVariables false
set_option linter.unusedSimpArgs false
theorem readerNew {w : World} : Spec Go.Proofs.Tryd.prog 25 #[] w [] (fun u H' => ∃ b, u = .pointer (some ⟨b, 0, none⟩) ∧ H' = [readerC b (.slice none 0 0)]) := by
  refine Spec.enter (fn := Go.Proofs.Tryd.f25) (n := 3) [] Go.Proofs.Tryd.func25 (by kernel_rfl) rfl Go.Proofs.Tryd.ntmps25 Go.Proofs.Tryd.results25 rfl (Own.nil _) ?_
  refine JC.rs ?_
  refine Seq.p rfl Ev.assign ?_
  refine Seq.nil ?_
  refine JC.rs ?_
  refine Seq.p rfl (Ev.buildN [_] pl.text_Reader z.text_Reader) ?_
  refine Seq.box (cs := [_]) (k := ?_); intro b2
  refine Seq.p rfl Ev.assign ?_
  refine Seq.nil ?_
  refine JC.ret ?_
  -- return 0
  show retQ _ _ _ _ _ _ _ _
  refine ret1 (hp := Part.refl _) (hpost := ?_)
  exact ⟨b2, rfl, rfl⟩
theorem readerWaiting {w : World} {b : Nat} {v : Value} {h : List Int} (hc : Cell w [] ⟨b, 0, none⟩ v) (hr : RSl byteEnc 1 w [] v h) :
    Spec Go.Proofs.Tryd.prog 26 #[.pointer (some ⟨b, 0, none⟩)] w [] (fun u _ => u = .int .i64 (h.length : Int)) := by
  refine Spec.enter (fn := Go.Proofs.Tryd.f26) (n := 8) [.pointer (some ⟨b, 0, none⟩)] Go.Proofs.Tryd.func26 (by kernel_rfl) rfl Go.Proofs.Tryd.ntmps26 Go.Proofs.Tryd.results26 rfl (Own.nil _) ?_
  refine JC.rs ?_
  refine Seq.p rfl Ev.assign ?_
  refine Seq.nil ?_
  refine JC.rs ?_
  refine Seq.p rfl Ev.move ?_
  refine Seq.p rfl Ev.nilP ?_
  refine Seq.p rfl (Ev.faB fd.text_Reader_0) ?_
  refine Seq.p rfl (Ev.ldS sc.sl_uint8 (Cells.cell hc)) ?_
  refine Seq.p rfl (Ev.lenSl sl.sl_uint8 (hr := hr.r)) ?_
  refine Seq.p rfl Ev.assign ?_
  refine Seq.nil ?_
  refine JC.ret ?_
  -- return 0
  show retQ _ _ _ _ _ _ _ _
  refine ret1 (hp := Part.nil _) (hpost := ?_)
  rfl
set_option maxHeartbeats 1000000 in
set_option maxRecDepth 100000 in
theorem readerFeed {w : World} {b c : Nat} {A : Option Addr} {vc : Value} {h l : List Int} (hr : RSl byteEnc 1 w [readerC b (.slice A h.length c), bytesC (.slice A h.length c) h] vc l) (ho : Own w [readerC b (.slice A h.length c), bytesC (.slice A h.length c) h]) (hh : h.length ≤ 65536) :
    Spec Go.Proofs.Tryd.prog 27 #[.pointer (some ⟨b, 0, none⟩), vc] w [readerC b (.slice A h.length c), bytesC (.slice A h.length c) h] (fun u H' => ∃ A' c', u = .int .i64 (feedF h l).2 ∧ H' = [readerC b (.slice A' (feedF h l).1.length c'), bytesC (.slice A' (feedF h l).1.length c') (feedF h l).1]) := by
  refine Spec.enter (fn := Go.Proofs.Tryd.f27) (n := 23) [.pointer (some ⟨b, 0, none⟩), vc] Go.Proofs.Tryd.func27 (by kernel_rfl) rfl Go.Proofs.Tryd.ntmps27 Go.Proofs.Tryd.results27 rfl ho ?_
  refine JC.rs ?_
  refine Seq.p rfl Ev.assign ?_
  refine Seq.nil ?_
  refine JC.seq ?_
  refine JC.rs ?_
  refine Seq.p rfl Ev.move ?_
  refine Seq.p rfl (Ev.lenSl sl.sl_uint8 (hr := hr.r)) ?_
  refine Seq.p rfl Ev.move ?_
  refine Seq.p rfl Ev.nilP ?_
  refine Seq.p rfl (Ev.faB fd.text_Reader_0) ?_
  refine Seq.p rfl (Ev.ldB sc.sl_uint8) ?_
  refine Seq.p rfl (Ev.lenSl sl.sl_uint8 (hr := RAt.own (enc := byteEnc) (xs := h))) ?_
  refine Seq.p rfl Ev.sub ?_
  refine Seq.p rfl Ev.gt ?_
  refine Seq.nil ?_
  first | refine JC.c (ht := fun c13 => ?_) (hf := fun c13 => ?_) | refine JC.cb (ht := fun c13 => ?_) (hf := fun c13 => ?_)
  · -- then_t13
    refine JC.rs ?_
    refine Seq.p rfl Ev.assign ?_
    refine Seq.nil ?_
    refine JC.ret ?_
    -- return 0
    show retQ _ _ _ _ _ _ _ _
    refine ret1 (hp := Part.refl _) (hpost := ?_)
    have e : feedF h l = (h, 2) := if_pos (by omega)
    rw [e]
    exact ⟨A, c, rfl, rfl⟩
  · -- else_t13
    refine JC.skip ?_
    refine JC.rs ?_
    refine Seq.p rfl Ev.move ?_
    refine Seq.p rfl Ev.move ?_
    refine Seq.p rfl Ev.nilP ?_
    refine Seq.p rfl (Ev.faB fd.text_Reader_0) ?_
    refine Seq.p rfl (Ev.ldB sc.sl_uint8) ?_
    refine Seq.p rfl Ev.move ?_
    refine Seq.append (hsl := sl.sl_uint8) (he := el.uint8) (hsrc := (fun w' hw => Src.rsl sl.sl_uint8 (hr.up hw) (by omega) byteOne)) (k := ?_); intro A20 c20
    refine Seq.p rfl Ev.nilP ?_
    refine Seq.p rfl (Ev.faB fd.text_Reader_0) ?_
    refine Seq.storeN [_] sz.sl_uint8 (k := ?_)
    refine Seq.nil ?_
    refine JC.rs ?_
    refine Seq.p rfl Ev.assign ?_
    refine Seq.nil ?_
    rw [← bytesC_append (.slice A20 (h.length + l.length) c20) h l _ rfl]
    refine JC.ret ?_
    -- return 1
    show retQ _ _ _ _ _ _ _ _
    refine ret1 (hp := Part.refl _) (hpost := ?_)
    have e : feedF h l = (h ++ l, 0) := if_neg (by omega)
    rw [e]
    exact ⟨A20, c20, rfl, by simp only [List.length_append]; rfl⟩
set_option maxHeartbeats 1000000 in
set_option maxRecDepth 100000 in
theorem cloneBytes {w : World} {A : Option Addr} {c : Nat} {l : List Int} (hr : RSl byteEnc 1 w [] (.slice A l.length c) l) (hl : l.length ≤ 140737488351232) :
    Spec Go.Proofs.Tryd.prog 64 #[.slice A l.length c] w [] (fun u H' => ∃ A' c', u = .slice A' l.length c' ∧ H' = [bytesC (.slice A' l.length c') l]) := by
  refine Spec.enter (fn := Go.Proofs.Tryd.f64) (n := 8) [.slice A l.length c] Go.Proofs.Tryd.func64 (by kernel_rfl) rfl Go.Proofs.Tryd.ntmps64 Go.Proofs.Tryd.results64 rfl (Own.nil _) ?_
  refine JC.re (fun w h => h.nilOwn 5 1) ?_
  refine JC.rs ?_
  refine Seq.p rfl Ev.assign ?_
  refine Seq.nil ?_
  refine JC.seq ?_
  refine JC.rs ?_
  refine Seq.p rfl Ev.move ?_
  refine Seq.p rfl (Ev.eqNilSl und.sl_uint8) ?_
  refine Seq.nil ?_
  first | refine JC.c (ht := fun c4 => ?_) (hf := fun c4 => ?_) | refine JC.cb (ht := fun c4 => ?_) (hf := fun c4 => ?_)
  · -- then_t4
    refine JC.rs ?_
    refine Seq.p rfl Ev.assign ?_
    refine Seq.nil ?_
    refine JC.ret ?_
    -- return 0
    show retQ _ _ _ _ _ _ _ _
    refine ret1 (hp := Part.refl _) (hpost := ?_)
    obtain rfl : l = [] := by obtain ⟨A', c', he, _, hA⟩ := hr.shape; cases he; exact hA (by cases A with | none => rfl | some a => cases c4)
    exact ⟨none, 0, rfl, rfl⟩
  · -- else_t4
    refine JC.skip ?_
    refine JC.rs ?_
    refine Seq.buildSl (cs := []) (hsl := sl.sl_uint8) (hz := z.uint8) (hcs := rfl) (k := ?_); intro b5
    refine Seq.re (fun w h => Upd.boxOwn h (n := 0) (size := 1) At.z rfl (by omega)) ?_
    refine Seq.p rfl Ev.move ?_
    refine Seq.append (hsl := sl.sl_uint8) (he := el.uint8) (hH := At.z) (hsrc := fun w' hw => Src.rsl sl.sl_uint8 (hr.up hw) (by omega) byteOne) (k := ?_); intro A7 c7
    rw [Nat.zero_add l.length, List.nil_append]
    refine Seq.p rfl Ev.assign ?_
    refine Seq.nil ?_
    refine JC.ret ?_
    -- return 1
    show retQ _ _ _ _ _ _ _ _
    refine ret1 (hp := Part.here (Part.nil _)) (hpost := ?_)
    exact ⟨A7, c7, rfl, rfl⟩
/-- A piece of bytes, cut at a place. -/
theorem cutTo {w0 w : World} {Cs H : List Chunk} {i n : Nat} {v : Value} {h : List Int} (hu : Upd w0 w Cs H) (hH : At H i (bytesC v h)) (hn : n ≤ h.length) : Upd w0 w Cs (H.set i (bytesC (subSl v n h.length 1) (h.drop n))) := by
  have h2 := Upd.reslice (enc := byteEnc) (lo := n) (hi := h.length) hu hH (fun _ => rfl) hn (Nat.le_refl _)
  rwa [List.take_of_length_le (by rw [List.length_drop]; exact Nat.le_refl _)] at h2
theorem subForm {A : Option Addr} {c n : Nat} {h : List Int} (hn : n ≤ h.length) : ∃ A2 c2, subSl (.slice A h.length c) n h.length 1 = .slice A2 (h.drop n).length c2 := ⟨_, _, by rw [List.length_drop]; rfl⟩
set_option maxHeartbeats 1000000 in
set_option maxRecDepth 100000 in
theorem readerDrop {w : World} {b n c : Nat} {A : Option Addr} {h : List Int} (ho : Own w [readerC b (.slice A h.length c), bytesC (.slice A h.length c) h]) (hh : h.length ≤ 65536) (hn : n ≤ h.length) :
    Spec Go.Proofs.Tryd.prog 43 #[.pointer (some ⟨b, 0, none⟩), .int .i64 (n : Int)] w [readerC b (.slice A h.length c), bytesC (.slice A h.length c) h] (fun u H' => ∃ A' c', H' = [readerC b (.slice A' (h.drop n).length c'), bytesC (.slice A' (h.drop n).length c') (h.drop n)]) := by
  obtain ⟨A2, c2, h2⟩ := subForm (A := A) (c := c) hn
  have hdl : (h.drop n).length ≤ 140737488351232 := by rw [List.length_drop]; omega
  refine Spec.enter (fn := Go.Proofs.Tryd.f43) (n := 14) [.pointer (some ⟨b, 0, none⟩), .int .i64 (n : Int)] Go.Proofs.Tryd.func43 (by kernel_rfl) rfl Go.Proofs.Tryd.ntmps43 Go.Proofs.Tryd.results43 rfl ho ?_
  refine JC.reg ?_
  refine Seq.p rfl Ev.move ?_
  refine Seq.p rfl Ev.move ?_
  refine Seq.p rfl Ev.nilP ?_
  refine Seq.p rfl (Ev.faB fd.text_Reader_0) ?_
  refine Seq.p rfl (Ev.ldB sc.sl_uint8) ?_
  refine Seq.p rfl Ev.move ?_
  refine Seq.p rfl (Ev.cut sl.sl_uint8 (hr := RAt.own (enc := byteEnc) (xs := h)) (l := n) (h := h.length) (hlo := ⟨_, (by repeat (first | exact Look.here | apply Look.there (hne := rfl) | exact Look.const | apply Look.mix rfl | exact Look.arg0 | apply Look.args | exact Look.func))⟩) (hhi := rfl)) ?_
  rw [h2]
  refine Seq.call rfl (fun w' hw => cloneBytes (by
    have h3 := (RAt.up (RAt.own (enc := byteEnc) (xs := h)) hw).sub (lo := n) (hi := h.length) hn (Nat.le_refl _)
    rw [List.take_of_length_le (by rw [List.length_drop]; exact Nat.le_refl _)] at h3
    exact h2 ▸ h3) hdl) (F := _) (List.Perm.refl _) ?_
  rintro _ _ ⟨A3, c3, rfl, rfl⟩
  simp only [List.cons_append, List.nil_append]
  refine Seq.p rfl Ev.nilP ?_
  refine Seq.p rfl (Ev.faB fd.text_Reader_0) ?_
  refine Seq.storeN [_] sz.sl_uint8 (k := ?_)
  refine Seq.nil ?_
  -- return 0
  first | show retQ _ _ _ _ _ .normal _ _ | (simp only [thenQ, blockQ, ↓reduceIte]; show retQ _ _ _ _ _ .normal _ _)
  exact ⟨[], [readerC b (.slice A3 (h.drop n).length c3), bytesC (.slice A3 (h.drop n).length c3) (h.drop n)], RVs.nil, (by repeat (first | exact Part.nil _ | refine Part.at (by repeat (first | exact At.z | apply At.s)) ?_)), A3, c3, rfl⟩
  skip
theorem indexEight {w : World} {a a2 : Addr} {c c2 : Nat} {l : List Int} (hr : RSl byteEnc 1 w [] (.slice (some a) l.length c) l) (hr2 : RSl byteEnc 1 w [] (.slice (some a2) 2 c2) eightL) (hB : isBytes l) (hl : l.length ≤ 65536) (hm : ∃ m, w.cell? ⟨0, 0, none⟩ = some (.int .i64 m)) :
    Spec Go.Proofs.Tryd.prog 65 #[.slice (some a) l.length c, .slice (some a2) 2 c2] w [] (fun u _ => u = .int .i64 (Lib.index (Lib.bytesOf l) (Lib.bytesOf eightL))) := by
  obtain ⟨A', c', hv, hcc, _⟩ := hr.shape
  cases hv
  obtain ⟨m, hm⟩ := hm
  have get : ∀ {l : List Int} {a : Addr} {n c : Nat}, RSl byteEnc 1 w [] (.slice (some a) n c) l → ∀ i, i < l.length → w.cell? (a.add i) = some (.int .u8 (l.getD i 0)) := by
    intro l a n c hr i hi
    have h1 := (hr.cell i hi 0 (.int .u8 l[i]!) rfl).1
    have e1 : l.getD i 0 = l[i]! := by rw [getElem!_pos l i hi]; simp [List.getD, hi]
    rw [e1]
    simpa [sbase] using h1
  refine spec_of_below ⟨Go.Proofs.Tryd.f65, Go.Proofs.Tryd.func65, by kernel_rfl, rfl⟩ ((Go.Proofs.Tryd.bytes_Index_at a a2 l.length c 2 c2 l eightL m w rfl rfl (fun x hx => by have := hB x hx; omega) (by decide) (get hr) (get hr2) hcc (by omega) (by decide) hm).mono ?_)
  rintro e w' ⟨rfl, q, rfl⟩
  exact ⟨rfl, ⟨rfl, rfl, rfl, Nat.le_refl _, fun _ _ => rfl⟩⟩
set_option maxHeartbeats 1000000 in
set_option maxRecDepth 100000 in
theorem readerFoot {w : World} {b c : Nat} {A : Option Addr} {h : List Int} (hc : Cell w [] ⟨b, 0, none⟩ (.slice A h.length c)) (hr : RSl byteEnc 1 w [] (.slice A h.length c) h) (hB : isBytes h) (hne : h ≠ []) (hh : h.length ≤ 65536) (hm : ∃ m, w.cell? ⟨0, 0, none⟩ = some (.int .i64 m)) :
    Spec Go.Proofs.Tryd.prog 44 #[.pointer (some ⟨b, 0, none⟩)] w [] (fun u _ => u = .int .i64 ((footF h 1 : Nat) : Int)) := by
  have hlen : 0 < h.length := List.length_pos_iff.2 hne
  obtain ⟨a, rfl⟩ : ∃ a, A = some a := by
    obtain ⟨A', c', he, _, hA⟩ := hr.shape
    cases he
    cases A with
    | none => exact absurd (hA rfl) hne
    | some a => exact ⟨a, rfl⟩
  obtain ⟨a2, c2, h2⟩ : ∃ a2 c2, subSl (.slice (some a) h.length c) 1 h.length 1 = .slice (some a2) (h.drop 1).length c2 := by
    rw [List.length_drop]
    simp only [subSl]
    split
    · exact ⟨_, _, rfl⟩
    · exact ⟨_, _, rfl⟩
  have hsub : RSl byteEnc 1 w [] (.slice (some a2) (h.drop 1).length c2) (h.drop 1) := by
    have h3 := hr.sub (lo := 1) (hi := h.length) (by omega) (Nat.le_refl _)
    rw [List.take_of_length_le (by rw [List.length_drop]; exact Nat.le_refl _), h2] at h3
    exact h3
  have hdl : (h.drop 1).length ≤ 65536 := by rw [List.length_drop]; omega
  have hmax : ∀ {w' : World} {H : List Chunk}, Upd w w' [] H → ∃ m, w'.cell? ⟨0, 0, none⟩ = some (.int .i64 m) := fun hu => hm.imp fun m hm => Cell.up (Cs := []) ⟨hm, by simp⟩ hu
  refine Spec.enter (fn := Go.Proofs.Tryd.f44) (n := 48) [.pointer (some ⟨b, 0, none⟩)] Go.Proofs.Tryd.func44 (by kernel_rfl) rfl Go.Proofs.Tryd.ntmps44 Go.Proofs.Tryd.results44 rfl (Own.nil _) ?_
  refine JC.rs ?_
  refine Seq.p rfl Ev.assign ?_
  refine Seq.nil ?_
  refine JC.seq ?_
  refine JC.rs ?_
  refine Seq.p rfl Ev.move ?_
  refine Seq.p rfl Ev.nilP ?_
  refine Seq.p rfl (Ev.faB fd.text_Reader_0) ?_
  refine Seq.p rfl (Ev.ldS sc.sl_uint8 (Cells.cell hc)) ?_
  refine Seq.p rfl (Ev.cut sl.sl_uint8 (hr := hr.r) (l := 1) (h := h.length) (hlo := ⟨_, (by repeat (first | exact Look.here | apply Look.there (hne := rfl) | exact Look.const | apply Look.mix rfl | exact Look.arg0 | apply Look.args | exact Look.func))⟩) (hhi := rfl)) ?_
  rw [h2]
  refine Seq.buildSlN _ (hsl := sl.sl_uint8) (hz := z.uint8) (k := ?_); intro b9
  refine Seq.markLit (hd := sl.sl_uint8) (he := it.uint8) (k := ?_)
  obtain ⟨ix, hix⟩ : ∃ ix, Lib.index (Lib.bytesOf (h.drop 1)) (Lib.bytesOf eightL) = ix := ⟨_, rfl⟩
  refine Seq.callP rfl (fun w' hw => hix ▸ indexEight (hsub.up hw) (RAt.up (RAt.own (enc := byteEnc) (xs := eightL) (hs := by decide)) hw) (isBytes_drop hB) hdl (hmax hw)) ?_
  have hge := Lib.index_ge (Lib.bytesOf (h.drop 1)) (Lib.bytesOf eightL)
  rw [hix] at hge
  have hle : ix ≤ 65536 := by
    rcases Int.lt_or_le ix 0 with h0 | h0
    · omega
    · obtain ⟨i, rfl⟩ : ∃ i : Nat, ix = i := ⟨ix.toNat, (Int.toNat_of_nonneg h0).symm⟩
      have h5 := (index_some hix).1
      have h6 : (Lib.bytesOf (h.drop 1)).length = (h.drop 1).length := by simp [Lib.bytesOf]
      omega
  refine Seq.p rfl Ev.assign ?_
  refine Seq.nil ?_
  refine JC.rs ?_
  refine Seq.p rfl Ev.move ?_
  refine Seq.p rfl Ev.ge ?_
  refine Seq.nil ?_
  first | refine JC.c (ht := fun c13 => ?_) (hf := fun c13 => ?_) | refine JC.cb (ht := fun c13 => ?_) (hf := fun c13 => ?_)
  · -- then_t13
    obtain ⟨i, rfl⟩ : ∃ i : Nat, ix = i := ⟨ix.toNat, (Int.toNat_of_nonneg (by omega)).symm⟩
    refine JC.rs ?_
    refine Seq.p rfl Ev.move ?_
    refine Seq.p rfl Ev.add ?_
    refine Seq.p rfl Ev.assign ?_
    refine Seq.nil ?_
    refine JC.ret ?_
    -- return 0
    show retQ _ _ _ _ _ _ _ _
    refine ret1 (hp := Part.nil _) (hpost := ?_)
    rw [foot_some hB hne hix]
    congr 1
  · -- else_t13
    obtain rfl : ix = -1 := by omega
    have hfm := foot_miss hB hne hix
    refine JC.skip ?_
    refine JC.seq ?_
    refine JC.qs mixed (by kernel_rfl) ?_
    refine Qui.p rfl Ev.move ?_
    refine Qui.p rfl Ev.nilP ?_
    refine Qui.p rfl (Ev.faB fd.text_Reader_0) ?_
    refine Qui.p rfl (Ev.ldS sc.sl_uint8 (Cells.cell hc)) ?_
    refine Qui.p rfl Ev.move ?_
    refine Qui.p rfl Ev.nilP ?_
    refine Qui.p rfl (Ev.faB fd.text_Reader_0) ?_
    refine Qui.p rfl (Ev.ldS sc.sl_uint8 (Cells.cell hc)) ?_
    refine Qui.p rfl (Ev.lenSl sl.sl_uint8 (hr := hr.r)) ?_
    refine Qui.p rfl (Ev.dec (m := h.length)) ?_
    refine Qui.p rfl (Ev.iaN sl.sl_uint8 (hr := hr.r)) ?_
    refine Qui.p rfl (Ev.ldE1 sc.uint8 (hr := hr.r)) ?_
    refine Qui.p rfl Ev.eq ?_
    refine Qui.p rfl Ev.move ?_
    refine Qui.andG (D := [29, 30, 31, 32, 33, 34, 35, 36]) (d := 29) (t := 36) (k := 7) (hn := fun h29 => ?_) (hx := ?_)
    · repeat (first | refine Qui.gn rfl rfl rfl rfl ?_ | refine Qui.gu rfl rfl rfl ?_)
      refine Qui.p rfl Ev.pickF ?_
      exact Qui.nil ⟨(by repeat (first | with_reducible exact Off.refl | refine Off.upd ?_ rfl | exact Off.mix | refine Off.mix2 ?_ rfl)), Look.here⟩
    apply Exists.intro
    refine ⟨fun h29 => ?_, fun u36 => ?_⟩
    · try simp only [decide_eq_true_eq, decide_eq_false_iff_not, Bool.and_eq_true, Bool.or_eq_true, Bool.not_eq_true', Bool.not_eq_false', Bool.or_eq_false_iff, Bool.and_eq_false_imp] at h29
      refine Qui.gy rfl rfl rfl ?_
      refine Qui.p rfl Ev.move ?_
      refine Qui.gy rfl rfl rfl ?_
      refine Qui.p rfl Ev.nilP ?_
      refine Qui.gy rfl rfl rfl ?_
      refine Qui.p rfl (Ev.faB fd.text_Reader_0) ?_
      refine Qui.gy rfl rfl rfl ?_
      refine Qui.p rfl (Ev.ldS sc.sl_uint8 (Cells.cell hc)) ?_
      refine Qui.gy rfl rfl rfl ?_
      refine Qui.p rfl (Ev.lenSl sl.sl_uint8 (hr := hr.r)) ?_
      refine Qui.gy rfl rfl rfl ?_
      refine Qui.p rfl Ev.gt ?_
      refine Qui.p rfl Ev.pickT ?_
      exact Qui.nil ⟨(by repeat (first | with_reducible exact Off.refl | refine Off.upd ?_ rfl | exact Off.mix | refine Off.mix2 ?_ rfl)), Look.here⟩
    refine Qui.nil ?_
    first | refine JC.c (ht := fun c36 => ?_) (hf := fun c36 => ?_) | refine JC.cb (ht := fun c36 => ?_) (hf := fun c36 => ?_)
    · -- then_t36
      have hcc : h[h.length - 1]! = 56 ∧ 1 < h.length := by simp only [Bool.and_eq_true, decide_eq_true_eq] at c36; omega
      refine JC.rs ?_
      refine Seq.p rfl Ev.move ?_
      refine Seq.p rfl Ev.nilP ?_
      refine Seq.p rfl (Ev.faB fd.text_Reader_0) ?_
      refine Seq.p rfl (Ev.ldS sc.sl_uint8 (Cells.cell hc)) ?_
      refine Seq.p rfl (Ev.lenSl sl.sl_uint8 (hr := hr.r)) ?_
      refine Seq.p rfl (Ev.dec (m := h.length)) ?_
      refine Seq.p rfl Ev.assign ?_
      refine Seq.nil ?_
      refine JC.ret ?_
      -- return 1
      show retQ _ _ _ _ _ _ _ _
      refine ret1 (hp := Part.nil _) (hpost := ?_)
      rw [hfm, if_pos hcc]
    · -- else_t36
      have hcc : ¬ (h[h.length - 1]! = 56 ∧ 1 < h.length) := by simp only [Bool.and_eq_false_iff, decide_eq_false_iff_not] at c36; omega
      refine JC.skip ?_
      refine JC.rs ?_
      refine Seq.p rfl Ev.move ?_
      refine Seq.p rfl Ev.nilP ?_
      refine Seq.p rfl (Ev.faB fd.text_Reader_0) ?_
      refine Seq.p rfl (Ev.ldS sc.sl_uint8 (Cells.cell hc)) ?_
      refine Seq.p rfl (Ev.lenSl sl.sl_uint8 (hr := hr.r)) ?_
      refine Seq.p rfl Ev.assign ?_
      refine Seq.nil ?_
      refine JC.ret ?_
      -- return 2
      show retQ _ _ _ _ _ _ _ _
      refine ret1 (hp := Part.nil _) (hpost := ?_)
      rw [hfm, if_neg hcc]
end Go.Rx
