/- The program's frame: the document's head, and whether the whole line is there. -/
import Derived.Test.YtcggppjpnepoiaaDoorR0
namespace Go.Rx
open Go Go.RowKit Go.Lib Go.Proofs.YtcggppjpnepoiaaDoor
set_option linter.unusedVariables false
set_option linter.unusedSimpArgs false
def lineV (size place : Int) : Value := .agg #[.string ⟨#[]⟩, .slice none 0 0, .int .i64 size, .int .i64 place]
def frameV (l : List Int) : HeadA → Value
  | .bad a c => .tuple #[lineV 0 a, .int .i64 0, .int .i64 0, .int .i64 c]
  | .ok f k => if 2048 < f + k + 7 then .tuple #[lineV 0 10, .int .i64 0, .int .i64 0, .int .i64 2] else if l.length < f + k + 7 then .tuple #[lineV 0 l.length, .int .i64 0, .int .i64 0, .int .i64 20]
    else .tuple #[lineV ((f + k + 7 : Nat) : Int) 0, .int .i64 (f : Int), .int .i64 ((f + k : Nat) : Int), .int .i64 0]
theorem frameV_ok (l : List Int) (f k : Nat) : frameV l (.ok f k) = if 2048 < f + k + 7 then .tuple #[lineV 0 10, .int .i64 0, .int .i64 0, .int .i64 2] else if l.length < f + k + 7 then .tuple #[lineV 0 l.length, .int .i64 0, .int .i64 0, .int .i64 20]
    else .tuple #[lineV ((f + k + 7 : Nat) : Int) 0, .int .i64 (f : Int), .int .i64 ((f + k : Nat) : Int), .int .i64 0] := rfl
theorem digits_45 {l : List Int} {n : Nat} (h : ∀ j < n, digit l[10 + j]! = true) : ∀ c ∈ (strOf ((l.drop 10).take n)).data.toList, c.toNat ≠ 45 := by
  intro c hc
  rw [strOf_toList] at hc
  obtain ⟨x, hx, rfl⟩ := List.mem_map.1 hc
  obtain ⟨j, hj, rfl⟩ := List.getElem_of_mem hx
  have hj1 : j < n := by rw [List.length_take] at hj; omega
  have hj2 : 10 + j < l.length := by rw [List.length_take, List.length_drop] at hj; omega
  have h2 := h j hj1
  rw [getElem!_pos l (10 + j) hj2] at h2
  have e : ((l.drop 10).take n)[j] = l[10 + j] := by simp
  rw [e]
  unfold digit at h2
  simp only [Bool.and_eq_true, decide_eq_true_eq] at h2
  rw [UInt8.toNat_ofNat']
  omega
theorem itoa_pos {s : ByteArray} {n0 : Int} (he : (⟨(itoa n0).toArray⟩ : ByteArray) = s) (h45 : ∀ c ∈ s.data.toList, c.toNat ≠ 45) : 0 ≤ n0 := by
  rcases Int.lt_or_le n0 0 with hneg | hpos
  · exfalso
    have h1 : itoa n0 = s.data.toList := by rw [← he]
    unfold itoa at h1
    rw [if_pos hneg] at h1
    have h2 := h45 45 (by rw [← h1]; exact List.mem_cons_self ..)
    exact h2 rfl
  · exact hpos
theorem frame_bad {l : List Int} {n : Nat} {n0 : Int} {be : Bool} {s : ByteArray} (hp : preF l 10 0 = 10) (hg : dgF l 5 0 = n) (hl : ¬ 10 + n = l.length) (hs : strOf ((l.drop 10).take n) = s) (hss : s.size = n)
    (hna : natF s = if (be || decide ((⟨(itoa n0).toArray⟩ : ByteArray) ≠ s)) = true then none else some n0.toNat)
    (h : (be || decide ((s.size : Int) = 5) || decide ((⟨(itoa n0).toArray⟩ : ByteArray) ≠ s) || decide (l[10 + n]! ≠ 1)) = true) : headF l = .bad 10 3 := by
  rw [headF, hp, hg, if_neg (by omega), if_neg hl, hs, hna]
  by_cases hb : (be || decide ((⟨(itoa n0).toArray⟩ : ByteArray) ≠ s)) = true
  · rw [if_pos hb]
  · rw [if_neg hb]
    simp only
    rw [if_pos]
    simp only [Bool.or_eq_true, decide_eq_true_eq] at h hb
    rcases h with ((h | h) | h) | h
    · exact absurd (.inl h) hb
    · exact .inl (by omega)
    · exact absurd (.inr h) hb
    · exact .inr h
theorem frame_ok {l : List Int} {n : Nat} {n0 : Int} {be : Bool} {s : ByteArray} (hp : preF l 10 0 = 10) (hg : dgF l 5 0 = n) (hl : ¬ 10 + n = l.length) (hs : strOf ((l.drop 10).take n) = s) (hss : s.size = n) (h45 : ∀ c ∈ s.data.toList, c.toNat ≠ 45)
    (hna : natF s = if (be || decide ((⟨(itoa n0).toArray⟩ : ByteArray) ≠ s)) = true then none else some n0.toNat)
    (h : (be || decide ((s.size : Int) = 5) || decide ((⟨(itoa n0).toArray⟩ : ByteArray) ≠ s) || decide (l[10 + n]! ≠ 1)) = false) : ∃ k : Nat, n0 = k ∧ headF l = .ok (11 + n) k ∧ k < 10000 := by
  simp only [Bool.or_eq_false_iff, decide_eq_false_iff_not] at h
  obtain ⟨⟨⟨rfl, h1⟩, h2⟩, h3⟩ := h
  have he := Classical.not_not.1 h2
  have hpos := itoa_pos he h45
  have hn5 : n ≤ 5 := by rw [← hg]; exact dgF_le l 5 0
  rw [if_neg (by simp [he])] at hna
  refine ⟨n0.toNat, (Int.toNat_of_nonneg hpos).symm, ?_, ?_⟩
  · rw [headF, hp, hg, if_neg (by omega), if_neg hl, hs, hna]
    simp only
    rw [if_neg]
    rintro (h | h)
    · omega
    · exact h3 h
  · have h5 := natF_lt hna
    have h6 : s.size ≤ 4 := by omega
    exact Nat.lt_of_lt_of_le h5 (Nat.pow_le_pow_right (by decide) h6)
set_option maxHeartbeats 4000000 in
set_option maxRecDepth 100000 in
theorem textFrame {w : World} {v : Value} {l : List Int} (hr : RSl byteEnc 1 w [] v l) (hB : isBytes l) (hL : Laid w) :
    Spec Go.Proofs.Tryd.prog 48 #[v] w [] (fun u _ => u = frameV l (headF l)) := by
  have hsm := hr.small
  refine Spec.enter (fn := Go.Proofs.Tryd.f48) (n := 115) [v] Go.Proofs.Tryd.func48 (by kernel_rfl) rfl Go.Proofs.Tryd.ntmps48 Go.Proofs.Tryd.results48 rfl (Own.nil _) ?_
  refine JC.rs ?_
  refine Seq.alloc (cs := [_, _, _, _]) (hz := z.text_line) (k := ?_); intro b2
  refine Seq.p rfl Ev.assign ?_
  refine Seq.p rfl Ev.assign ?_
  refine Seq.p rfl Ev.assign ?_
  refine Seq.nil ?_
  refine JC.seq ?_
  refine JC.rs ?_
  refine Seq.p rfl Ev.move ?_
  refine Seq.nil ?_
  refine JC.blk ?_
  refine JC.loop (α := Nat) (I := fun i e1 H1 => Has [3, 4, 5, 6, 11, 12, 13, 14, 15, 16, 17, 18, 19, 20, 21, 22, 23, 24, 25, 26, 27, 28, 29] [(11, .int .i64 (i : Int))] _ e1 ∧ H1 = _ ∧ i ≤ 10 ∧ i ≤ l.length ∧ preF l (10 - i) i = preF l 10 0) (μ := fun i => 10 - i) 0 ⟨Has.mk Off.refl (allLook_cons (by repeat (first | exact Look.here | apply Look.there (hne := rfl) | exact Look.const | apply Look.mix rfl | exact Look.arg0 | apply Look.args | exact Look.func)) allLook_nil), rfl, by omega, by omega, rfl⟩ ?_
  rintro i _ _ ⟨⟨u, rfl⟩, rfl, hi, hil, hq⟩; dsimp only [setL]
  refine JC.rs ?_
  refine Seq.p rfl Ev.lt ?_
  refine Seq.nil ?_
  refine JC.seq ?_
  first | refine JC.c (ht := fun c12 => ?_) (hf := fun c12 => ?_) | refine JC.cb (ht := fun c12 => ?_) (hf := fun c12 => ?_)
  · -- then_t12
    have hi2 : i < 10 := by omega
    rw [show 10 - i = (10 - (i + 1)) + 1 by omega, preF] at hq
    refine JC.skip ?_
    refine JC.seq ?_
    refine JC.blk ?_
    refine JC.rs ?_
    refine Seq.p rfl Ev.move ?_
    refine Seq.p rfl Ev.assign ?_
    refine Seq.nil ?_
    refine JC.seq ?_
    refine JC.rs ?_
    refine Seq.p rfl Ev.move ?_
    refine Seq.p rfl Ev.move ?_
    refine Seq.p rfl (Ev.lenSl sl.sl_uint8 (hr := hr.r)) ?_
    refine Seq.p rfl Ev.eq ?_
    refine Seq.nil ?_
    first | refine JC.c (ht := fun c17 => ?_) (hf := fun c17 => ?_) | refine JC.cb (ht := fun c17 => ?_) (hf := fun c17 => ?_)
    · -- then_t17
      refine JC.rs ?_
      refine Seq.p rfl Ev.move ?_
      refine Seq.p rfl (Ev.buildN [_, _, _, _] pl.text_line z.text_line) ?_
      refine Seq.storeN [_, _, _, _] sz.text_line (k := ?_)
      refine Seq.p rfl Ev.assign ?_
      refine Seq.p rfl Ev.assign ?_
      refine Seq.p rfl Ev.assign ?_
      refine Seq.nil ?_
      refine JC.ret ?_
      -- return 0
      show retQ _ _ _ _ _ _ _ _
      refine retI (RVs.bA ag.text_line (hs := (RVs.t (hs := (RVs.t (hs := (RVs.t (hs := RVs.nil)))))))) (Part.nil _) ?_
      rw [if_neg (by omega)] at hq
      have hh : headF l = .bad (i : Nat) 20 := by rw [headF, ← hq, if_pos hi2, if_pos (by omega)]
      rw [hh]
      rfl
    · -- else_t17
      have hi3 : i < l.length := by omega
      refine JC.skip ?_
      refine JC.qs mixed (by kernel_rfl) ?_
      refine Qui.p rfl Ev.move ?_
      refine Qui.p rfl Ev.move ?_
      refine Qui.p rfl (Ev.iaN sl.sl_uint8 (hr := hr.r)) ?_
      refine Qui.p rfl (Ev.ldE1 sc.uint8 (hr := hr.r)) ?_
      refine Qui.p rfl Ev.move ?_
      refine Qui.p rfl (Ev.indexStr st.string (hi := ⟨by omega, by show (i : Int) < 10; omega⟩)) ?_
      refine Qui.p rfl Ev.ne ?_
      refine Qui.nil ?_
      first | refine JC.c (ht := fun c26 => ?_) (hf := fun c26 => ?_) | refine JC.cb (ht := fun c26 => ?_) (hf := fun c26 => ?_)
      · -- then_t26
        refine JC.rs ?_
        refine Seq.p rfl Ev.move ?_
        refine Seq.p rfl (Ev.buildN [_, _, _, _] pl.text_line z.text_line) ?_
        refine Seq.storeN [_, _, _, _] sz.text_line (k := ?_)
        refine Seq.p rfl Ev.assign ?_
        refine Seq.p rfl Ev.assign ?_
        refine Seq.p rfl Ev.assign ?_
        refine Seq.nil ?_
        refine JC.ret ?_
        -- return 1
        show retQ _ _ _ _ _ _ _ _
        refine retI (RVs.bA ag.text_line (hs := (RVs.t (hs := (RVs.t (hs := (RVs.t (hs := RVs.nil)))))))) (Part.nil _) ?_
        rw [begin_get hi2] at c26
        rw [if_neg (fun h => c26 h.2)] at hq
        have hh : headF l = .bad (i : Nat) 3 := by rw [headF, ← hq, if_pos hi2, if_neg (by omega)]
        rw [hh]
        rfl
      · -- else_t26
        refine JC.skip ?_
        refine JC.reg ?_
        refine Seq.p rfl (by first | exact Ev.inc | exact Ev.add) ?_
        refine Seq.p rfl Ev.move ?_
        refine Seq.nil ?_
        rw [begin_get hi2] at c26
        rw [if_pos ⟨hi3, Classical.not_not.1 c26⟩] at hq
        exact ⟨i + 1, _, Part.refl _, ⟨Has.mk (by repeat (first | refine Off.upd ?_ rfl | exact Off.mix | refine Off.mix2 ?_ rfl | exact Off.refl)) (allLook_cons (by repeat (first | exact Look.here | apply Look.there (hne := rfl) | exact Look.const | apply Look.mix rfl | exact Look.arg0 | apply Look.args | exact Look.func)) allLook_nil), rfl, by omega, by omega, hq⟩, by omega⟩
  · -- else_t12
    obtain rfl : i = 10 := by omega
    have hp : preF l 10 0 = 10 := hq.symm
    refine JC.exit ?_ -- 0
    refine JC.rs ?_
    refine Seq.p rfl Ev.assign ?_
    refine Seq.nil ?_
    refine JC.seq ?_
    refine JC.blk ?_
    refine JC.loop (α := Nat) (I := fun n e1 H1 => Has [7, 30, 31, 32, 33, 34, 35, 36, 37, 38, 39, 40, 41, 42, 43, 44, 45, 46, 47, 48, 49, 50, 51, 52, 53] [(7, .int .i64 ((10 + n : Nat) : Int))] _ e1 ∧ H1 = _ ∧ n ≤ 5 ∧ 10 + n ≤ l.length ∧ dgF l (5 - n) n = dgF l 5 0 ∧ ∀ j < n, digit l[10 + j]! = true) (μ := fun n => 5 - n) 0 ⟨Has.mk Off.refl (allLook_cons (by repeat (first | exact Look.here | apply Look.there (hne := rfl) | exact Look.const | apply Look.mix rfl | exact Look.arg0 | apply Look.args | exact Look.func)) allLook_nil), rfl, by omega, by omega, rfl, by omega⟩ ?_
    rintro n _ _ ⟨⟨u, rfl⟩, rfl, hn, hnl, hd, hdg⟩; dsimp only [setL]
    refine JC.seq ?_
    refine JC.rs ?_
    refine Seq.p rfl Ev.move ?_
    refine Seq.p rfl Ev.move ?_
    refine Seq.p rfl (Ev.lenSl sl.sl_uint8 (hr := hr.r)) ?_
    refine Seq.p rfl Ev.lt ?_
    refine Seq.p rfl Ev.move ?_
    refine Seq.andG (D := [34, 35, 36, 37]) (d := 34) (t := 37) (k := 3) (hn := fun h34 => ?_) (hx := ?_)
    · repeat (first | refine Seq.gn rfl rfl rfl rfl ?_ | refine Seq.gu rfl rfl rfl ?_)
      refine Seq.p rfl Ev.pickF ?_
      exact Seq.nil ⟨rfl, (by repeat (first | with_reducible exact Off.refl | refine Off.upd ?_ rfl | exact Off.mix | refine Off.mix2 ?_ rfl)), Look.here⟩
    apply Exists.intro
    refine ⟨fun h34 => ?_, fun u37 => ?_⟩
    · try simp only [decide_eq_true_eq, decide_eq_false_iff_not, Bool.and_eq_true, Bool.or_eq_true, Bool.not_eq_true', Bool.not_eq_false', Bool.or_eq_false_iff, Bool.and_eq_false_imp] at h34
      refine Seq.gy rfl rfl rfl ?_
      refine Seq.p rfl Ev.move ?_
      refine Seq.gy rfl rfl rfl ?_
      refine Seq.p rfl Ev.lt ?_
      refine Seq.p rfl Ev.pickT ?_
      exact Seq.nil ⟨rfl, (by repeat (first | with_reducible exact Off.refl | refine Off.upd ?_ rfl | exact Off.mix | refine Off.mix2 ?_ rfl)), Look.here⟩
    refine Seq.p rfl Ev.move ?_
    refine Seq.andG (D := [38, 39, 40, 41, 42, 43, 44]) (d := 38) (t := 44) (k := 6) (hn := fun h38 => ?_) (hx := ?_)
    · repeat (first | refine Seq.gn rfl rfl rfl rfl ?_ | refine Seq.gu rfl rfl rfl ?_)
      refine Seq.p rfl Ev.pickF ?_
      exact Seq.nil ⟨rfl, (by repeat (first | with_reducible exact Off.refl | refine Off.upd ?_ rfl | exact Off.mix | refine Off.mix2 ?_ rfl)), Look.here⟩
    apply Exists.intro
    refine ⟨fun h38 => ?_, fun u44 => ?_⟩
    · try simp only [decide_eq_true_eq, decide_eq_false_iff_not, Bool.and_eq_true, Bool.or_eq_true, Bool.not_eq_true', Bool.not_eq_false', Bool.or_eq_false_iff, Bool.and_eq_false_imp] at h38
      refine Seq.gy rfl rfl rfl ?_
      refine Seq.p rfl Ev.move ?_
      refine Seq.gy rfl rfl rfl ?_
      refine Seq.p rfl Ev.move ?_
      refine Seq.gy rfl rfl rfl ?_
      refine Seq.p rfl (Ev.iaN sl.sl_uint8 (hr := hr.r)) ?_
      refine Seq.gy rfl rfl rfl ?_
      refine Seq.p rfl (Ev.ldE1 sc.uint8 (hr := hr.r)) ?_
      refine Seq.gy rfl rfl rfl ?_
      refine Seq.p rfl Ev.ge ?_
      refine Seq.p rfl Ev.pickT ?_
      exact Seq.nil ⟨rfl, (by repeat (first | with_reducible exact Off.refl | refine Off.upd ?_ rfl | exact Off.mix | refine Off.mix2 ?_ rfl)), Look.here⟩
    refine Seq.p rfl Ev.move ?_
    refine Seq.andG (D := [45, 46, 47, 48, 49, 50, 51]) (d := 45) (t := 51) (k := 6) (hn := fun h45 => ?_) (hx := ?_)
    · repeat (first | refine Seq.gn rfl rfl rfl rfl ?_ | refine Seq.gu rfl rfl rfl ?_)
      refine Seq.p rfl Ev.pickF ?_
      exact Seq.nil ⟨rfl, (by repeat (first | with_reducible exact Off.refl | refine Off.upd ?_ rfl | exact Off.mix | refine Off.mix2 ?_ rfl)), Look.here⟩
    apply Exists.intro
    refine ⟨fun h45 => ?_, fun u51 => ?_⟩
    · try simp only [decide_eq_true_eq, decide_eq_false_iff_not, Bool.and_eq_true, Bool.or_eq_true, Bool.not_eq_true', Bool.not_eq_false', Bool.or_eq_false_iff, Bool.and_eq_false_imp] at h45
      refine Seq.gy rfl rfl rfl ?_
      refine Seq.p rfl Ev.move ?_
      refine Seq.gy rfl rfl rfl ?_
      refine Seq.p rfl Ev.move ?_
      refine Seq.gy rfl rfl rfl ?_
      refine Seq.p rfl (Ev.iaN sl.sl_uint8 (hr := hr.r)) ?_
      refine Seq.gy rfl rfl rfl ?_
      refine Seq.p rfl (Ev.ldE1 sc.uint8 (hr := hr.r)) ?_
      refine Seq.gy rfl rfl rfl ?_
      refine Seq.p rfl Ev.le ?_
      refine Seq.p rfl Ev.pickT ?_
      exact Seq.nil ⟨rfl, (by repeat (first | with_reducible exact Off.refl | refine Off.upd ?_ rfl | exact Off.mix | refine Off.mix2 ?_ rfl)), Look.here⟩
    refine Seq.nil ?_
    first | refine JC.c (ht := fun c51 => ?_) (hf := fun c51 => ?_) | refine JC.cb (ht := fun c51 => ?_) (hf := fun c51 => ?_)
    · -- then_t51
      refine JC.skip ?_
      refine JC.blk ?_
      refine JC.reg ?_
      refine Seq.p rfl Ev.move ?_
      refine Seq.p rfl (by first | exact Ev.inc | exact Ev.add) ?_
      refine Seq.p rfl Ev.assign ?_
      refine Seq.nil ?_
      simp only [Bool.and_eq_true, decide_eq_true_eq] at c51
      have hdn : digit l[10 + n]! = true := by unfold digit; simp only [Bool.and_eq_true, decide_eq_true_eq]; omega
      rw [show 5 - n = (5 - (n + 1)) + 1 by omega, dgF, if_pos ⟨by omega, hdn⟩] at hd
      refine ⟨n + 1, _, Part.refl _, ⟨Has.mk (by repeat (first | refine Off.upd ?_ rfl | exact Off.mix | refine Off.mix2 ?_ rfl | exact Off.refl)) (allLook_cons (by repeat (first | exact Look.here | apply Look.there (hne := rfl) | exact Look.const | apply Look.mix rfl | exact Look.arg0 | apply Look.args | exact Look.func)) allLook_nil), rfl, by omega, by omega, hd, fun j hj => ?_⟩, by omega⟩
      by_cases h : j = n
      · rw [h]; exact hdn
      · exact hdg j (by omega)
    · -- else_t51
      have hg : dgF l 5 0 = n := by
        rw [← hd]
        rcases Nat.lt_or_ge n 5 with h5 | h5
        · rw [show 5 - n = (5 - (n + 1)) + 1 by omega, dgF, if_neg]
          rintro ⟨h1, h2⟩
          simp only [Bool.and_eq_false_iff, decide_eq_false_iff_not] at c51
          unfold digit at h2
          simp only [Bool.and_eq_true, decide_eq_true_eq] at h2
          omega
        · rw [show 5 - n = 0 by omega]; rfl
      have hsub : RSl byteEnc 1 w [] (subSl v 10 (10 + n) 1) ((l.drop 10).take n) := by
        have h2 := hr.sub (lo := 10) (hi := 10 + n) (by omega) (by omega)
        rwa [show 10 + n - 10 = n by omega] at h2
      have h45 := digits_45 hdg
      have hsl : ((l.drop 10).take n).length = n := by rw [List.length_take, List.length_drop]; omega
      have hss := strOf_size ((l.drop 10).take n)
      rw [hsl] at hss
      refine JC.exit ?_ -- 2
      refine JC.seq ?_
      refine JC.rs ?_
      refine Seq.p rfl Ev.move ?_
      refine Seq.p rfl Ev.move ?_
      refine Seq.p rfl (Ev.lenSl sl.sl_uint8 (hr := hr.r)) ?_
      refine Seq.p rfl Ev.eq ?_
      refine Seq.nil ?_
      first | refine JC.c (ht := fun c57 => ?_) (hf := fun c57 => ?_) | refine JC.cb (ht := fun c57 => ?_) (hf := fun c57 => ?_)
      · -- then_t57
        refine JC.rs ?_
        refine Seq.p rfl Ev.move ?_
        refine Seq.p rfl (Ev.buildN [_, _, _, _] pl.text_line z.text_line) ?_
        refine Seq.storeN [_, _, _, _] sz.text_line (k := ?_)
        refine Seq.p rfl Ev.assign ?_
        refine Seq.p rfl Ev.assign ?_
        refine Seq.p rfl Ev.assign ?_
        refine Seq.nil ?_
        refine JC.ret ?_
        -- return 2
        show retQ _ _ _ _ _ _ _ _
        refine retI (RVs.bA ag.text_line (hs := (RVs.t (hs := (RVs.t (hs := (RVs.t (hs := RVs.nil)))))))) (Part.nil _) ?_
        have hh : headF l = .bad l.length 20 := by rw [headF, hp, hg, if_neg (by omega), if_pos (by omega)]
        rw [hh, show ((10 + n : Nat) : Int) = (l.length : Int) by omega]
        rfl
      · -- else_t57
        refine JC.skip ?_
        refine JC.rs ?_
        refine Seq.p rfl Ev.move ?_
        refine Seq.p rfl Ev.move ?_
        refine Seq.p rfl (Ev.cut sl.sl_uint8 (hr := hr.r) (l := 10) (h := 10 + n) (hlo := ⟨_, (by repeat (first | exact Look.here | apply Look.there (hne := rfl) | exact Look.const | apply Look.mix rfl | exact Look.arg0 | apply Look.args | exact Look.func))⟩) (hhi := ⟨_, (by repeat (first | exact Look.here | apply Look.there (hne := rfl) | exact Look.const | apply Look.mix rfl | exact Look.arg0 | apply Look.args | exact Look.func))⟩)) ?_
        refine Seq.p rfl (Ev.strOf (l := (l.drop 10).take n) sl.sl_uint8 it.uint8 st.string (hr := hsub.r)) ?_
        refine Seq.p rfl Ev.assign ?_
        refine Seq.nil ?_
        refine JC.rs ?_
        refine Seq.p rfl Ev.move ?_
        refine Seq.call rfl (fun w hw => textAtoi (by omega) (hL.upd hw)) (F := _) (by exact List.Perm.refl _) ?_
        rintro _ _ ⟨n0, er, be, rfl, rfl, her, hat, hn0, hn1⟩
        simp only [List.nil_append]
        refine Seq.p rfl Ev.move ?_
        refine Seq.p rfl Ev.extract ?_
        refine Seq.p rfl Ev.extract ?_
        refine Seq.p rfl Ev.assign ?_
        refine Seq.p rfl Ev.assign ?_
        refine Seq.nil ?_
        refine JC.seq ?_
        refine JC.rs ?_
        refine Seq.p rfl Ev.move ?_
        refine Seq.p rfl (Ev.neErr her (by kernel_rfl)) ?_
        refine Seq.p rfl Ev.move ?_
        refine Seq.orG (D := [71, 72, 73, 74, 75]) (d := 71) (t := 75) (k := 4) (hn := fun h71 => ?_) (hx := ?_)
        · repeat (first | refine Seq.gn rfl rfl rfl rfl ?_ | refine Seq.gu rfl rfl rfl ?_)
          refine Seq.p rfl Ev.pickT ?_
          exact Seq.nil ⟨rfl, (by repeat (first | with_reducible exact Off.refl | refine Off.upd ?_ rfl | exact Off.mix | refine Off.mix2 ?_ rfl)), Look.here⟩
        apply Exists.intro
        refine ⟨fun h71 => ?_, fun u75 => ?_⟩
        · try simp only [decide_eq_true_eq, decide_eq_false_iff_not, Bool.and_eq_true, Bool.or_eq_true, Bool.not_eq_true', Bool.not_eq_false', Bool.or_eq_false_iff, Bool.and_eq_false_imp] at h71
          refine Seq.gy rfl rfl rfl ?_
          refine Seq.p rfl Ev.move ?_
          refine Seq.gy rfl rfl rfl ?_
          refine Seq.p rfl (Ev.lenStr st.string) ?_
          refine Seq.gy rfl rfl rfl ?_
          refine Seq.p rfl Ev.eq ?_
          refine Seq.p rfl Ev.pickF ?_
          exact Seq.nil ⟨rfl, (by repeat (first | with_reducible exact Off.refl | refine Off.upd ?_ rfl | exact Off.mix | refine Off.mix2 ?_ rfl)), Look.here⟩
        refine Seq.p rfl Ev.move ?_
        refine Seq.orG (D := [76, 77, 78, 79, 80, 81]) (d := 76) (t := 81) (k := 5) (hn := fun h76 => ?_) (hx := ?_)
        · repeat (first | refine Seq.gn rfl rfl rfl rfl ?_ | refine Seq.gu rfl rfl rfl ?_)
          refine Seq.p rfl Ev.pickT ?_
          exact Seq.nil ⟨rfl, (by repeat (first | with_reducible exact Off.refl | refine Off.upd ?_ rfl | exact Off.mix | refine Off.mix2 ?_ rfl)), Look.here⟩
        apply Exists.intro
        refine ⟨fun h76 => ?_, fun u81 => ?_⟩
        · try simp only [decide_eq_true_eq, decide_eq_false_iff_not, Bool.and_eq_true, Bool.or_eq_true, Bool.not_eq_true', Bool.not_eq_false', Bool.or_eq_false_iff, Bool.and_eq_false_imp] at h76
          refine Seq.gy rfl rfl rfl ?_
          refine Seq.p rfl Ev.move ?_
          refine Seq.gy rfl rfl rfl ?_
          refine Seq.callP rfl (fun w hw => textItoa hn0 hn1 (hL.upd hw)) ?_
          refine Seq.gy rfl rfl rfl ?_
          refine Seq.p rfl Ev.move ?_
          refine Seq.gy rfl rfl rfl ?_
          refine Seq.p rfl Ev.neStr ?_
          refine Seq.p rfl Ev.pickF ?_
          exact Seq.nil ⟨rfl, (by repeat (first | with_reducible exact Off.refl | refine Off.upd ?_ rfl | exact Off.mix | refine Off.mix2 ?_ rfl)), Look.here⟩
        refine Seq.p rfl Ev.move ?_
        refine Seq.orG (D := [82, 83, 84, 85, 86, 87, 88]) (d := 82) (t := 88) (k := 6) (hn := fun h82 => ?_) (hx := ?_)
        · repeat (first | refine Seq.gn rfl rfl rfl rfl ?_ | refine Seq.gu rfl rfl rfl ?_)
          refine Seq.p rfl Ev.pickT ?_
          exact Seq.nil ⟨rfl, (by repeat (first | with_reducible exact Off.refl | refine Off.upd ?_ rfl | exact Off.mix | refine Off.mix2 ?_ rfl)), Look.here⟩
        apply Exists.intro
        refine ⟨fun h82 => ?_, fun u88 => ?_⟩
        · try simp only [decide_eq_true_eq, decide_eq_false_iff_not, Bool.and_eq_true, Bool.or_eq_true, Bool.not_eq_true', Bool.not_eq_false', Bool.or_eq_false_iff, Bool.and_eq_false_imp] at h82
          refine Seq.gy rfl rfl rfl ?_
          refine Seq.p rfl Ev.move ?_
          refine Seq.gy rfl rfl rfl ?_
          refine Seq.p rfl Ev.move ?_
          refine Seq.gy rfl rfl rfl ?_
          refine Seq.p rfl (Ev.iaN sl.sl_uint8 (hr := hr.r)) ?_
          refine Seq.gy rfl rfl rfl ?_
          refine Seq.p rfl (Ev.ldE1 sc.uint8 (hr := hr.r)) ?_
          refine Seq.gy rfl rfl rfl ?_
          refine Seq.p rfl Ev.ne ?_
          refine Seq.p rfl Ev.pickF ?_
          exact Seq.nil ⟨rfl, (by repeat (first | with_reducible exact Off.refl | refine Off.upd ?_ rfl | exact Off.mix | refine Off.mix2 ?_ rfl)), Look.here⟩
        refine Seq.nil ?_
        first | refine JC.c (ht := fun c88 => ?_) (hf := fun c88 => ?_) | refine JC.cb (ht := fun c88 => ?_) (hf := fun c88 => ?_)
        · -- then_t88
          have hna := atoi_nat hat h45 (by omega)
          refine JC.rs ?_
          refine Seq.p rfl (Ev.buildN [_, _, _, _] pl.text_line z.text_line) ?_
          refine Seq.storeN [_, _, _, _] sz.text_line (k := ?_)
          refine Seq.p rfl Ev.assign ?_
          refine Seq.p rfl Ev.assign ?_
          refine Seq.p rfl Ev.assign ?_
          refine Seq.nil ?_
          refine JC.ret ?_
          -- return 3
          show retQ _ _ _ _ _ _ _ _
          refine retI (RVs.bA ag.text_line (hs := (RVs.t (hs := (RVs.t (hs := (RVs.t (hs := RVs.nil)))))))) (Part.nil _) ?_
          have hh := frame_bad hp hg (by omega) rfl hss hna c88
          rw [hh]
          rfl
        · -- else_t88
          have hna := atoi_nat hat h45 (by omega)
          obtain ⟨k, rfl, hh, hk⟩ := frame_ok hp hg (by omega) rfl hss h45 hna c88
          refine JC.skip ?_
          refine JC.rs ?_
          refine Seq.p rfl Ev.move ?_
          refine Seq.p rfl (Ev.addN (m := 10 + n) (c := 1)) ?_
          refine Seq.p rfl Ev.assign ?_
          refine Seq.nil ?_
          refine JC.rs ?_
          refine Seq.p rfl Ev.move ?_
          refine Seq.p rfl Ev.move ?_
          refine Seq.p rfl (Ev.addN (m := 10 + n + 1) (c := k)) ?_
          refine Seq.p rfl Ev.assign ?_
          refine Seq.nil ?_
          refine JC.rs ?_
          refine Seq.p rfl Ev.move ?_
          refine Seq.p rfl (Ev.addN (m := 10 + n + 1 + k) (c := 7)) ?_
          refine Seq.p rfl (Ev.faB fd.text_line_2) ?_
          refine Seq.storeN [_, _, _, _] sz.int (k := ?_)
          refine Seq.nil ?_
          refine JC.seq ?_
          refine JC.blk ?_
          refine JC.rs ?_
          refine Seq.p rfl (Ev.faB fd.text_line_2) ?_
          refine Seq.p rfl (Ev.ldB sc.int) ?_
          refine Seq.p rfl Ev.gt ?_
          refine Seq.p rfl Ev.assign ?_
          refine Seq.nil ?_
          first | refine JC.c (ht := fun c98 => ?_) (hf := fun c98 => ?_) | refine JC.cb (ht := fun c98 => ?_) (hf := fun c98 => ?_)
          · -- then_t98
            refine JC.rs ?_
            refine Seq.p rfl (Ev.buildN [_, _, _, _] pl.text_line z.text_line) ?_
            refine Seq.storeN [_, _, _, _] sz.text_line (k := ?_)
            refine Seq.p rfl Ev.assign ?_
            refine Seq.p rfl Ev.assign ?_
            refine Seq.p rfl Ev.assign ?_
            refine Seq.nil ?_
            refine JC.ret ?_
            -- return 4
            show retQ _ _ _ _ _ _ _ _
            refine retI (RVs.bA ag.text_line (hs := (RVs.t (hs := (RVs.t (hs := (RVs.t (hs := RVs.nil)))))))) (Part.nil _) ?_
            rw [hh, frameV_ok]
            rw [if_pos (by omega)]
            rfl
          · -- else_t98
            refine JC.rs ?_
            refine Seq.p rfl Ev.move ?_
            refine Seq.p rfl (Ev.lenSl sl.sl_uint8 (hr := hr.r)) ?_
            refine Seq.p rfl (Ev.faB fd.text_line_2) ?_
            refine Seq.p rfl (Ev.ldB sc.int) ?_
            refine Seq.p rfl Ev.lt ?_
            refine Seq.p rfl Ev.assign ?_
            refine Seq.nil ?_
            first | refine JC.c (ht := fun c103 => ?_) (hf := fun c103 => ?_) | refine JC.cb (ht := fun c103 => ?_) (hf := fun c103 => ?_)
            · -- then_t103
              refine JC.rs ?_
              refine Seq.p rfl Ev.move ?_
              refine Seq.p rfl (Ev.lenSl sl.sl_uint8 (hr := hr.r)) ?_
              refine Seq.p rfl (Ev.buildN [_, _, _, _] pl.text_line z.text_line) ?_
              refine Seq.storeN [_, _, _, _] sz.text_line (k := ?_)
              refine Seq.p rfl Ev.assign ?_
              refine Seq.p rfl Ev.assign ?_
              refine Seq.p rfl Ev.assign ?_
              refine Seq.nil ?_
              refine JC.ret ?_
              -- return 5
              show retQ _ _ _ _ _ _ _ _
              refine retI (RVs.bA ag.text_line (hs := (RVs.t (hs := (RVs.t (hs := (RVs.t (hs := RVs.nil)))))))) (Part.nil _) ?_
              rw [hh, frameV_ok]
              rw [if_neg (by omega), if_pos (by omega)]
              rfl
            · -- else_t103
              refine JC.skip ?_
              refine JC.rs ?_
              refine Seq.p rfl (Ev.ldBA ag.text_line) ?_
              refine Seq.p rfl Ev.move ?_
              refine Seq.p rfl Ev.move ?_
              refine Seq.storeN [_, _, _, _] sz.text_line (k := ?_)
              refine Seq.p rfl Ev.assign ?_
              refine Seq.p rfl Ev.assign ?_
              refine Seq.p rfl Ev.assign ?_
              refine Seq.nil ?_
              refine JC.ret ?_
              -- return 6
              show retQ _ _ _ _ _ _ _ _
              refine retI (RVs.bA ag.text_line (hs := (RVs.t (hs := (RVs.t (hs := (RVs.t (hs := RVs.nil)))))))) (Part.nil _) ?_
              rw [hh, frameV_ok]
              rw [if_neg (by omega), if_neg (by omega), show 11 + n + k + 7 = 10 + n + 1 + k + 7 by omega, show 11 + n + k = 10 + n + 1 + k by omega, show 11 + n = 10 + n + 1 by omega]
              rfl
end Go.Rx
