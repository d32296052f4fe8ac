/- Value of both, and the law's comparison of tags. -/
import Derived.Test.YtcggppjpnepoiaaDoorG0
import Derived.Test.YtcggppjpnepoiaaDoorRxT
namespace Go.Rx
open Go Go.RowKit
set_option linter.unusedVariables false
set_option linter.unusedSimpArgs false
theorem Tg.eqL_enc (x y : Tg) : eqL x.enc y.enc = decide (x = y) := by
  cases x; cases y
  simp [Tg.enc, eqL, eqV, Bool.decide_and]
theorem valueF_hit {xs : List Tg} {tag : Int} {i : Nat} (hi : i < xs.length) (hn : ∀ j < i, (xs[j]!).tag ≠ tag) (h : (xs[i]!).tag = tag) : valueF xs tag = some (xs[i]!).value := by
  unfold valueF
  have : xs.find? (fun t => decide (t.tag = tag)) = some xs[i]! := by
    rw [List.find?_eq_some_iff_getElem]
    refine ⟨by simpa using h, i, hi, by rw [getElem!_pos xs i hi], fun j hj => ?_⟩
    have := hn j hj
    rw [getElem!_pos xs j (by omega)] at this
    simpa using this
  rw [this]
  rfl
theorem valueF_miss {xs : List Tg} {tag : Int} (hn : ∀ j < xs.length, (xs[j]!).tag ≠ tag) : valueF xs tag = none := by
  unfold valueF
  have : xs.find? (fun t => decide (t.tag = tag)) = none := by
    rw [List.find?_eq_none]
    intro t ht
    obtain ⟨j, hj, rfl⟩ := List.getElem_of_mem ht
    have := hn j hj
    rw [getElem!_pos xs j hj] at this
    simpa using this
  rw [this]
  rfl
theorem valueF_mem {xs : List Tg} {tag : Int} {s : ByteArray} (h : valueF xs tag = some s) : ∃ t ∈ xs, t.value = s := by
  unfold valueF at h
  rw [Option.map_eq_some_iff] at h
  obtain ⟨t, ht, rfl⟩ := h
  exact ⟨t, List.mem_of_find?_eq_some ht, rfl⟩
set_option maxHeartbeats 1000000 in
set_option maxRecDepth 100000 in
theorem textValue {w : World} {v : Value} {xs : List Tg} {tag : Int} (hr : RSl Tg.enc 2 w [] v xs) :
    Spec Go.Proofs.Tryd.prog 10 #[v, .int .i64 tag] w [] (fun u _ => u = valueV (valueF xs tag)) := by
  have hsm := hr.small
  refine Spec.enter (fn := Go.Proofs.Tryd.f10) (n := 21) [v, .int .i64 tag] Go.Proofs.Tryd.func10 (by kernel_rfl) rfl Go.Proofs.Tryd.ntmps10 Go.Proofs.Tryd.results10 rfl (Own.nil _) ?_
  refine JC.rs ?_
  refine Seq.p rfl Ev.assign ?_
  refine Seq.p rfl Ev.assign ?_
  refine Seq.nil ?_
  refine JC.seq ?_
  refine JC.rs ?_
  refine Seq.p rfl Ev.move ?_
  refine Seq.p rfl (Ev.lenSl sl.sl_api_Tag (hr := hr.r)) ?_
  refine Seq.p rfl Ev.move ?_
  refine Seq.nil ?_
  refine JC.blk ?_
  refine JC.loop (α := Nat) (I := fun i e1 H1 => Has [4, 5, 7, 10, 11, 12, 13, 14, 15, 16, 17, 18, 19, 20] [(10, .int .i64 (i : Int))] _ e1 ∧ H1 = _ ∧ i ≤ xs.length ∧ ∀ j < i, (xs[j]!).tag ≠ tag) (μ := fun i => xs.length - i) 0 ⟨Has.mk Off.refl (allLook_cons (by repeat (first | exact Look.here | apply Look.there (hne := rfl) | exact Look.const | apply Look.mix rfl | exact Look.arg0 | apply Look.args | exact Look.func)) allLook_nil), rfl, by omega, by omega⟩ ?_
  rintro i _ _ ⟨⟨u, rfl⟩, rfl, hi, hno⟩; dsimp only [setL]
  refine JC.rs ?_
  refine Seq.p rfl Ev.lt ?_
  refine Seq.nil ?_
  refine JC.seq ?_
  first | refine JC.c (ht := fun c11 => ?_) (hf := fun c11 => ?_) | refine JC.cb (ht := fun c11 => ?_) (hf := fun c11 => ?_)
  · -- then_t11
    have hi2 : i < xs.length := by omega
    refine JC.skip ?_
    refine JC.seq ?_
    refine JC.blk ?_
    refine JC.rs ?_
    refine Seq.p rfl (Ev.iaN sl.sl_api_Tag (hr := hr.r)) ?_
    refine Seq.p rfl (Ev.ldEA ag.api_Tag (hr := hr.r)) ?_
    refine Seq.alloc (cs := [_, _]) (hz := z.api_Tag) (k := ?_); intro b7
    refine Seq.storeN [_, _] sz.api_Tag (k := ?_)
    refine Seq.nil ?_
    refine JC.rs ?_
    refine Seq.p rfl (Ev.faB fd.api_Tag_0) ?_
    refine Seq.p rfl (Ev.ldB sc.int) ?_
    refine Seq.p rfl Ev.move ?_
    refine Seq.p rfl Ev.eq ?_
    refine Seq.nil ?_
    first | refine JC.c (ht := fun c17 => ?_) (hf := fun c17 => ?_) | refine JC.cb (ht := fun c17 => ?_) (hf := fun c17 => ?_)
    · -- then_t17
      refine JC.rs ?_
      refine Seq.p rfl (Ev.faB fd.api_Tag_1) ?_
      refine Seq.p rfl (Ev.ldB sc.string) ?_
      refine Seq.p rfl Ev.assign ?_
      refine Seq.p rfl Ev.assign ?_
      refine Seq.nil ?_
      refine JC.ret ?_
      -- return 0
      show retQ _ _ _ _ _ _ _ _
      refine ret2 (hp := Part.nil _) (hpost := ?_)
      rw [valueF_hit hi2 hno c17]
      rfl
    · -- else_t17
      refine JC.skip ?_
      refine JC.reg ?_
      refine Seq.p rfl (by first | exact Ev.inc | exact Ev.add) ?_
      refine Seq.p rfl Ev.move ?_
      refine Seq.nil ?_
      refine ⟨i + 1, _, Part.skip (Part.refl _), ⟨Has.mk (by repeat (first | refine Off.upd ?_ rfl | exact Off.mix | refine Off.mix2 ?_ rfl | exact Off.refl)) (allLook_cons (by repeat (first | exact Look.here | apply Look.there (hne := rfl) | exact Look.const | apply Look.mix rfl | exact Look.arg0 | apply Look.args | exact Look.func)) allLook_nil), rfl, by omega, fun j hj => ?_⟩, by omega⟩
      by_cases h : j = i
      · rw [h]; exact c17
      · exact hno j (by omega)
  · -- else_t11
    refine JC.exit ?_ -- 0
    refine JC.rs ?_
    refine Seq.p rfl Ev.assign ?_
    refine Seq.p rfl Ev.assign ?_
    refine Seq.nil ?_
    refine JC.ret ?_
    -- return 1
    show retQ _ _ _ _ _ _ _ _
    refine ret2 (hp := Part.nil _) (hpost := ?_)
    rw [valueF_miss (fun j hj => hno j (by omega))]
    rfl
set_option maxHeartbeats 1000000 in
set_option maxRecDepth 100000 in
theorem refValue {w : World} {v : Value} {xs : List Tg} {tag : Int} (hr : RSl Tg.enc 2 w [] v xs) :
    Spec Go.Proofs.Tryd.prog 11 #[v, .int .i64 tag] w [] (fun u _ => u = valueV (valueF xs tag)) := by
  have hsm := hr.small
  refine Spec.enter (fn := Go.Proofs.Tryd.f11) (n := 25) [v, .int .i64 tag] Go.Proofs.Tryd.func11 (by kernel_rfl) rfl Go.Proofs.Tryd.ntmps11 Go.Proofs.Tryd.results11 rfl (Own.nil _) ?_
  refine JC.rs ?_
  refine Seq.p rfl Ev.assign ?_
  refine Seq.p rfl Ev.assign ?_
  refine Seq.nil ?_
  refine JC.seq ?_
  refine JC.rs ?_
  refine Seq.p rfl Ev.assign ?_
  refine Seq.nil ?_
  refine JC.blk ?_
  refine JC.loop (α := Nat) (I := fun i e1 H1 => Has [4, 5, 6, 7, 8, 9, 10, 11, 12, 13, 14, 15, 16, 17, 18, 19, 20, 21, 22, 23, 24] [(6, .int .i64 (i : Int))] _ e1 ∧ H1 = _ ∧ i ≤ xs.length ∧ ∀ j < i, (xs[j]!).tag ≠ tag) (μ := fun i => xs.length - i) 0 ⟨Has.mk Off.refl (allLook_cons (by repeat (first | exact Look.here | apply Look.there (hne := rfl) | exact Look.const | apply Look.mix rfl | exact Look.arg0 | apply Look.args | exact Look.func)) allLook_nil), rfl, by omega, by omega⟩ ?_
  rintro i _ _ ⟨⟨u, rfl⟩, rfl, hi, hno⟩; dsimp only [setL]
  refine JC.seq ?_
  refine JC.rs ?_
  refine Seq.p rfl Ev.move ?_
  refine Seq.p rfl Ev.move ?_
  refine Seq.p rfl (Ev.lenSl sl.sl_api_Tag (hr := hr.r)) ?_
  refine Seq.p rfl Ev.lt ?_
  refine Seq.nil ?_
  first | refine JC.c (ht := fun c10 => ?_) (hf := fun c10 => ?_) | refine JC.cb (ht := fun c10 => ?_) (hf := fun c10 => ?_)
  · -- then_t10
    have hi2 : i < xs.length := by omega
    refine JC.skip ?_
    refine JC.seq ?_
    refine JC.blk ?_
    refine JC.rs ?_
    refine Seq.p rfl Ev.move ?_
    refine Seq.p rfl Ev.move ?_
    refine Seq.p rfl (Ev.iaN sl.sl_api_Tag (hr := hr.r)) ?_
    refine Seq.p rfl (Ev.fa fd.api_Tag_0) ?_
    refine Seq.p rfl (Ev.ldE sc.int (hr := hr.r)) ?_
    refine Seq.p rfl Ev.move ?_
    refine Seq.p rfl Ev.eq ?_
    refine Seq.nil ?_
    first | refine JC.c (ht := fun c19 => ?_) (hf := fun c19 => ?_) | refine JC.cb (ht := fun c19 => ?_) (hf := fun c19 => ?_)
    · -- then_t19
      refine JC.rs ?_
      refine Seq.p rfl Ev.move ?_
      refine Seq.p rfl Ev.move ?_
      refine Seq.p rfl (Ev.iaN sl.sl_api_Tag (hr := hr.r)) ?_
      refine Seq.p rfl (Ev.fa fd.api_Tag_1) ?_
      refine Seq.p rfl (Ev.ldE sc.string (hr := hr.r)) ?_
      refine Seq.p rfl Ev.assign ?_
      refine Seq.p rfl Ev.assign ?_
      refine Seq.nil ?_
      refine JC.ret ?_
      -- return 0
      show retQ _ _ _ _ _ _ _ _
      refine ret2 (hp := Part.nil _) (hpost := ?_)
      rw [valueF_hit hi2 hno c19]
      rfl
    · -- else_t19
      refine JC.skip ?_
      refine JC.reg ?_
      refine Seq.p rfl Ev.move ?_
      refine Seq.p rfl (by first | exact Ev.inc | exact Ev.add) ?_
      refine Seq.p rfl Ev.assign ?_
      refine Seq.nil ?_
      refine ⟨i + 1, _, Part.refl _, ⟨Has.mk (by repeat (first | refine Off.upd ?_ rfl | exact Off.mix | refine Off.mix2 ?_ rfl | exact Off.refl)) (allLook_cons (by repeat (first | exact Look.here | apply Look.there (hne := rfl) | exact Look.const | apply Look.mix rfl | exact Look.arg0 | apply Look.args | exact Look.func)) allLook_nil), rfl, by omega, fun j hj => ?_⟩, by omega⟩
      by_cases h : j = i
      · rw [h]; exact c19
      · exact hno j (by omega)
  · -- else_t10
    refine JC.exit ?_ -- 0
    refine JC.rs ?_
    refine Seq.p rfl Ev.assign ?_
    refine Seq.p rfl Ev.assign ?_
    refine Seq.nil ?_
    refine JC.ret ?_
    -- return 1
    show retQ _ _ _ _ _ _ _ _
    refine ret2 (hp := Part.nil _) (hpost := ?_)
    rw [valueF_miss (fun j hj => hno j (by omega))]
    rfl
theorem tg_eq_iff_get (xs ys : List Tg) (h : xs.length = ys.length) : xs = ys ↔ ∀ j, j < xs.length → xs[j]! = ys[j]! := by
  constructor
  · rintro rfl _ _; rfl
  · intro hg
    refine List.ext_getElem h (fun i h1 h2 => ?_)
    have := hg i h1
    rwa [getElem!_pos xs i h1, getElem!_pos ys i h2] at this
set_option maxHeartbeats 1000000 in
set_option maxRecDepth 100000 in
theorem lawTags {w : World} {va vb : Value} {xs ys : List Tg} (ha : RSl Tg.enc 2 w [] va xs) (hb : RSl Tg.enc 2 w [] vb ys) :
    Spec Go.Proofs.Tryd.prog 14 #[va, vb] w [] (fun u _ => u = .bool (decide (xs = ys))) := by
  have ha1 := ha.small
  have hb1 := hb.small
  refine Spec.enter (fn := Go.Proofs.Tryd.f14) (n := 26) [va, vb] Go.Proofs.Tryd.func14 (by kernel_rfl) rfl Go.Proofs.Tryd.ntmps14 Go.Proofs.Tryd.results14 rfl (Own.nil _) ?_
  refine JC.rs ?_
  refine Seq.p rfl Ev.assign ?_
  refine Seq.nil ?_
  refine JC.seq ?_
  refine JC.rs ?_
  refine Seq.p rfl Ev.move ?_
  refine Seq.p rfl (Ev.lenSl sl.sl_api_Tag (hr := ha.r)) ?_
  refine Seq.p rfl Ev.move ?_
  refine Seq.p rfl (Ev.lenSl sl.sl_api_Tag (hr := hb.r)) ?_
  refine Seq.p rfl Ev.ne ?_
  refine Seq.nil ?_
  first | refine JC.c (ht := fun c10 => ?_) (hf := fun c10 => ?_) | refine JC.cb (ht := fun c10 => ?_) (hf := fun c10 => ?_)
  · -- then_t10
    refine JC.rs ?_
    refine Seq.p rfl Ev.assign ?_
    refine Seq.nil ?_
    refine JC.ret ?_
    -- return 0
    show retQ _ _ _ _ _ _ _ _
    refine ret1 (hp := Part.nil _) (hpost := ?_)
    have : ¬ xs = ys := fun h => c10 (by rw [h])
    rw [decide_eq_false this]
  · -- else_t10
    have hl : xs.length = ys.length := by omega
    refine JC.skip ?_
    refine JC.seq ?_
    refine JC.rs ?_
    refine Seq.p rfl Ev.assign ?_
    refine Seq.nil ?_
    refine JC.blk ?_
    refine JC.loop (α := Nat) (I := fun i e1 H1 => Has [4, 5, 11, 12, 13, 14, 15, 16, 17, 18, 19, 20, 21, 22, 23, 24, 25] [(5, .int .i64 (i : Int))] _ e1 ∧ H1 = _ ∧ i ≤ xs.length ∧ ∀ j < i, xs[j]! = ys[j]!) (μ := fun i => xs.length - i) 0 ⟨Has.mk Off.refl (allLook_cons (by repeat (first | exact Look.here | apply Look.there (hne := rfl) | exact Look.const | apply Look.mix rfl | exact Look.arg0 | apply Look.args | exact Look.func)) allLook_nil), rfl, by omega, by omega⟩ ?_
    rintro i _ _ ⟨⟨u, rfl⟩, rfl, hi, hno⟩; dsimp only [setL]
    refine JC.seq ?_
    refine JC.rs ?_
    refine Seq.p rfl Ev.move ?_
    refine Seq.p rfl Ev.move ?_
    refine Seq.p rfl (Ev.lenSl sl.sl_api_Tag (hr := ha.r)) ?_
    refine Seq.p rfl Ev.lt ?_
    refine Seq.nil ?_
    first | refine JC.c (ht := fun c14 => ?_) (hf := fun c14 => ?_) | refine JC.cb (ht := fun c14 => ?_) (hf := fun c14 => ?_)
    · -- then_t14
      have hi2 : i < xs.length := by omega
      refine JC.skip ?_
      refine JC.seq ?_
      refine JC.blk ?_
      refine JC.qs mixed (by kernel_rfl) ?_
      refine Qui.p rfl Ev.move ?_
      refine Qui.p rfl Ev.move ?_
      refine Qui.p rfl (Ev.iaN sl.sl_api_Tag (hr := ha.r)) ?_
      refine Qui.p rfl (Ev.ldEA ag.api_Tag (hr := ha.r)) ?_
      refine Qui.p rfl Ev.move ?_
      refine Qui.p rfl Ev.move ?_
      refine Qui.p rfl (Ev.iaN sl.sl_api_Tag (hr := hb.r)) ?_
      refine Qui.p rfl (Ev.ldEA ag.api_Tag (hr := hb.r)) ?_
      refine Qui.p rfl (Ev.neAg so.api_Tag ag.api_Tag gd.api_Tag) ?_
      refine Qui.nil ?_
      first | refine JC.c (ht := fun c25 => ?_) (hf := fun c25 => ?_) | refine JC.cb (ht := fun c25 => ?_) (hf := fun c25 => ?_)
      · -- then_t25
        refine JC.rs ?_
        refine Seq.p rfl Ev.assign ?_
        refine Seq.nil ?_
        refine JC.ret ?_
        -- return 1
        show retQ _ _ _ _ _ _ _ _
        refine ret1 (hp := Part.nil _) (hpost := ?_)
        have : ¬ xs = ys := fun h => by rw [h, Tg.eqL_enc] at c25; simp at c25
        rw [decide_eq_false this]
      · -- else_t25
        refine JC.skip ?_
        refine JC.reg ?_
        refine Seq.p rfl Ev.move ?_
        refine Seq.p rfl (by first | exact Ev.inc | exact Ev.add) ?_
        refine Seq.p rfl Ev.assign ?_
        refine Seq.nil ?_
        refine ⟨i + 1, _, Part.refl _, ⟨Has.mk (by repeat (first | refine Off.upd ?_ rfl | exact Off.mix | refine Off.mix2 ?_ rfl | exact Off.refl)) (allLook_cons (by repeat (first | exact Look.here | apply Look.there (hne := rfl) | exact Look.const | apply Look.mix rfl | exact Look.arg0 | apply Look.args | exact Look.func)) allLook_nil), rfl, by omega, fun j hj => ?_⟩, by omega⟩
        by_cases h : j = i
        · rw [h]; simpa [Tg.eqL_enc] using c25
        · exact hno j (by omega)
    · -- else_t14
      refine JC.exit ?_ -- 0
      refine JC.rs ?_
      refine Seq.p rfl Ev.assign ?_
      refine Seq.nil ?_
      refine JC.ret ?_
      -- return 2
      show retQ _ _ _ _ _ _ _ _
      refine ret1 (hp := Part.nil _) (hpost := ?_)
      have : xs = ys := (tg_eq_iff_get xs ys hl).2 (fun j hj => hno j (by omega))
      rw [decide_eq_true this]
theorem natF_start {s : ByteArray} (h : (decide ((s.size : Int) < 1) || decide (20 < (s.size : Int)) || decide (1 < (s.size : Int)) && decide (bAt s (Int.toNat 0) = 48)) = false) : natF s = natRest (s.data.toList.drop 0) 0 := by
  simp only [Bool.or_eq_false_iff, Bool.and_eq_false_iff, decide_eq_false_iff_not, Int.toNat_zero] at h
  unfold natF
  rw [if_neg (by omega)]
  rfl
theorem natF_bad {s : ByteArray} (h : (decide ((s.size : Int) < 1) || decide (20 < (s.size : Int)) || decide (1 < (s.size : Int)) && decide (bAt s (Int.toNat 0) = 48)) = true) : natF s = none := by
  simp only [Bool.or_eq_true, Bool.and_eq_true, decide_eq_true_eq, Int.toNat_zero] at h
  unfold natF
  rw [if_pos (by omega)]
theorem natF_len {s : ByteArray} (h : (decide ((s.size : Int) < 1) || decide (20 < (s.size : Int)) || decide (1 < (s.size : Int)) && decide (bAt s (Int.toNat 0) = 48)) = false) : s.size ≤ 20 := by
  simp only [Bool.or_eq_false_iff, Bool.and_eq_false_iff, decide_eq_false_iff_not, Int.toNat_zero] at h
  omega
theorem drop_bAt {s : ByteArray} {i : Nat} (h : i < s.size) : ∃ c : UInt8, bAt s (Int.toNat (i : Int)) = (c.toNat : Int) ∧ s.data.toList.drop i = c :: s.data.toList.drop (i + 1) := by
  have hl : i < s.data.toList.length := by simpa using h
  refine ⟨s.data.toList[i], ?_, List.drop_eq_getElem_cons hl⟩
  unfold bAt
  rw [Int.toNat_natCast, List.getElem?_eq_getElem hl]
  rfl
theorem look_int {e : Env} {x : Operand} {k : IntKind} {a b : Int} (h : Look e x (.int k a)) (hab : a = b) : Look e x (.int k b) := hab ▸ h
set_option maxHeartbeats 1000000 in
set_option maxRecDepth 100000 in
theorem refNatural {w : World} {s : ByteArray} : Spec Go.Proofs.Tryd.prog 33 #[.string s] w [] (fun u _ => u = natV (natF s)) := by
  refine Spec.enter (fn := Go.Proofs.Tryd.f33) (n := 56) [.string s] Go.Proofs.Tryd.func33 (by kernel_rfl) rfl Go.Proofs.Tryd.ntmps33 Go.Proofs.Tryd.results33 rfl (Own.nil _) ?_
  refine JC.rs ?_
  refine Seq.p rfl Ev.assign ?_
  refine Seq.p rfl Ev.assign ?_
  refine Seq.nil ?_
  refine JC.seq ?_
  refine JC.rs ?_
  refine Seq.p rfl Ev.move ?_
  refine Seq.p rfl (Ev.lenStr st.string) ?_
  refine Seq.p rfl Ev.lt ?_
  refine Seq.p rfl Ev.move ?_
  refine Seq.orG (D := [10, 11, 12, 13, 14]) (d := 10) (t := 14) (k := 4) (hn := fun h10 => ?_) (hx := ?_)
  · repeat (first | refine Seq.gn rfl rfl rfl rfl ?_ | refine Seq.gu rfl rfl rfl ?_)
    refine Seq.p rfl Ev.pickT ?_
    exact Seq.nil ⟨rfl, (by repeat (first | with_reducible exact Off.refl | refine Off.upd ?_ rfl | exact Off.mix | refine Off.mix2 ?_ rfl)), Look.here⟩
  apply Exists.intro
  refine ⟨fun h10 => ?_, fun u14 => ?_⟩
  · try simp only [decide_eq_true_eq, decide_eq_false_iff_not, Bool.and_eq_true, Bool.or_eq_true, Bool.not_eq_true', Bool.not_eq_false', Bool.or_eq_false_iff, Bool.and_eq_false_imp] at h10
    refine Seq.gy rfl rfl rfl ?_
    refine Seq.p rfl Ev.move ?_
    refine Seq.gy rfl rfl rfl ?_
    refine Seq.p rfl (Ev.lenStr st.string) ?_
    refine Seq.gy rfl rfl rfl ?_
    refine Seq.p rfl Ev.gt ?_
    refine Seq.p rfl Ev.pickF ?_
    exact Seq.nil ⟨rfl, (by repeat (first | with_reducible exact Off.refl | refine Off.upd ?_ rfl | exact Off.mix | refine Off.mix2 ?_ rfl)), Look.here⟩
  refine Seq.p rfl Ev.move ?_
  refine Seq.orG (D := [15, 16, 17, 18, 19, 20, 21, 22, 23, 24]) (d := 15) (t := 24) (k := 9) (hn := fun h15 => ?_) (hx := ?_)
  · repeat (first | refine Seq.gn rfl rfl rfl rfl ?_ | refine Seq.gu rfl rfl rfl ?_)
    refine Seq.p rfl Ev.pickT ?_
    exact Seq.nil ⟨rfl, (by repeat (first | with_reducible exact Off.refl | refine Off.upd ?_ rfl | exact Off.mix | refine Off.mix2 ?_ rfl)), Look.here⟩
  apply Exists.intro
  refine ⟨fun h15 => ?_, fun u24 => ?_⟩
  · try simp only [decide_eq_true_eq, decide_eq_false_iff_not, Bool.and_eq_true, Bool.or_eq_true, Bool.not_eq_true', Bool.not_eq_false', Bool.or_eq_false_iff, Bool.and_eq_false_imp] at h15
    refine Seq.gy rfl rfl rfl ?_
    refine Seq.p rfl Ev.move ?_
    refine Seq.gy rfl rfl rfl ?_
    refine Seq.p rfl (Ev.lenStr st.string) ?_
    refine Seq.gy rfl rfl rfl ?_
    refine Seq.p rfl Ev.gt ?_
    refine Seq.gy rfl rfl rfl ?_
    refine Seq.p rfl Ev.move ?_
    refine Seq.andG (D := [19, 20, 21, 22, 23]) (d := 19) (t := 23) (k := 4) (hn := fun h19 => ?_) (hx := ?_)
    · repeat (first | refine Seq.gn rfl rfl rfl rfl ?_ | refine Seq.gu rfl rfl rfl ?_)
      refine Seq.gy rfl rfl rfl ?_
      refine Seq.p rfl Ev.pickF ?_
      exact Seq.nil ⟨rfl, (by repeat (first | with_reducible exact Off.refl | refine Off.upd ?_ rfl | exact Off.mix | refine Off.mix2 ?_ rfl)), Look.here⟩
    apply Exists.intro
    refine ⟨fun h19 => ?_, fun u23 => ?_⟩
    · try simp only [decide_eq_true_eq, decide_eq_false_iff_not, Bool.and_eq_true, Bool.or_eq_true, Bool.not_eq_true', Bool.not_eq_false', Bool.or_eq_false_iff, Bool.and_eq_false_imp] at h19
      refine Seq.gy rfl rfl rfl ?_
      refine Seq.p rfl Ev.move ?_
      refine Seq.gy rfl rfl rfl ?_
      refine Seq.p rfl (Ev.indexStr st.string) ?_
      refine Seq.gy rfl rfl rfl ?_
      refine Seq.p rfl Ev.eq ?_
      refine Seq.gy rfl rfl rfl ?_
      refine Seq.p rfl Ev.pickT ?_
      exact Seq.nil ⟨rfl, (by repeat (first | with_reducible exact Off.refl | refine Off.upd ?_ rfl | exact Off.mix | refine Off.mix2 ?_ rfl)), Look.here⟩
    refine Seq.p rfl Ev.pickF ?_
    exact Seq.nil ⟨rfl, (by repeat (first | with_reducible exact Off.refl | refine Off.upd ?_ rfl | exact Off.mix | refine Off.mix2 ?_ rfl)), Look.here⟩
  refine Seq.nil ?_
  first | refine JC.c (ht := fun c24 => ?_) (hf := fun c24 => ?_) | refine JC.cb (ht := fun c24 => ?_) (hf := fun c24 => ?_)
  · -- then_t24
    refine JC.rs ?_
    refine Seq.p rfl Ev.assign ?_
    refine Seq.p rfl Ev.assign ?_
    refine Seq.nil ?_
    refine JC.ret ?_
    -- return 0
    show retQ _ _ _ _ _ _ _ _
    refine ret2 (hp := Part.nil _) (hpost := ?_)
    rw [natF_bad c24]
    rfl
  · -- else_t24
    have h20 := natF_len c24
    refine JC.skip ?_
    refine JC.rs ?_
    refine Seq.p rfl Ev.assign ?_
    refine Seq.nil ?_
    refine JC.seq ?_
    refine JC.rs ?_
    refine Seq.p rfl Ev.assign ?_
    refine Seq.nil ?_
    refine JC.blk ?_
    refine JC.loop (α := Nat × Nat) (I := fun p e1 H1 => Has [2, 3, 4, 5, 6, 25, 26, 27, 28, 29, 30, 31, 32, 33, 34, 35, 36, 37, 38, 39, 40, 41, 42, 43, 44, 45, 46, 47, 48, 49, 50, 51, 52, 53, 54] [(4, .int .u64 (p.2 : Int)), (5, .int .i64 (p.1 : Int))] _ e1 ∧ H1 = _ ∧ p.1 ≤ s.size ∧ p.2 ≤ 18446744073709551615 ∧ natF s = natRest (s.data.toList.drop p.1) p.2) (μ := fun p => s.size - p.1) (0, 0) ⟨Has.mk Off.refl (allLook_cons (by repeat (first | exact Look.here | apply Look.there (hne := rfl) | exact Look.const | apply Look.mix rfl | exact Look.arg0 | apply Look.args | exact Look.func)) (allLook_cons (by repeat (first | exact Look.here | apply Look.there (hne := rfl) | exact Look.const | apply Look.mix rfl | exact Look.arg0 | apply Look.args | exact Look.func)) allLook_nil)), rfl, by omega, by omega, ?_⟩ ?_
    · exact natF_start c24
    rintro ⟨i, n⟩ _ _ ⟨⟨u, rfl⟩, rfl, hi, hn, hq⟩; dsimp only [setL]; dsimp only at hi hn hq
    refine JC.seq ?_
    refine JC.rs ?_
    refine Seq.p rfl Ev.move ?_
    refine Seq.p rfl Ev.move ?_
    refine Seq.p rfl (Ev.lenStr st.string) ?_
    refine Seq.p rfl Ev.lt ?_
    refine Seq.nil ?_
    first | refine JC.c (ht := fun c28 => ?_) (hf := fun c28 => ?_) | refine JC.cb (ht := fun c28 => ?_) (hf := fun c28 => ?_)
    · -- then_t28
      have hi2 : i < s.size := by omega
      obtain ⟨c, hc, hd⟩ := drop_bAt hi2
      have hcb := c.toNat_lt
      rw [hd] at hq
      simp only [natRest] at hq
      refine JC.skip ?_
      refine JC.seq ?_
      refine JC.blk ?_
      refine JC.seq ?_
      refine JC.rs ?_
      refine Seq.p rfl Ev.move ?_
      refine Seq.p rfl Ev.move ?_
      refine Seq.p rfl (Ev.indexStr st.string) ?_
      refine Seq.p rfl Ev.lt ?_
      refine Seq.p rfl Ev.move ?_
      refine Seq.orG (D := [35, 36, 37, 38, 39, 40]) (d := 35) (t := 40) (k := 5) (hn := fun h35 => ?_) (hx := ?_)
      · repeat (first | refine Seq.gn rfl rfl rfl rfl ?_ | refine Seq.gu rfl rfl rfl ?_)
        refine Seq.p rfl Ev.pickT ?_
        exact Seq.nil ⟨rfl, (by repeat (first | with_reducible exact Off.refl | refine Off.upd ?_ rfl | exact Off.mix | refine Off.mix2 ?_ rfl)), Look.here⟩
      apply Exists.intro
      refine ⟨fun h35 => ?_, fun u40 => ?_⟩
      · try simp only [decide_eq_true_eq, decide_eq_false_iff_not, Bool.and_eq_true, Bool.or_eq_true, Bool.not_eq_true', Bool.not_eq_false', Bool.or_eq_false_iff, Bool.and_eq_false_imp] at h35
        refine Seq.gy rfl rfl rfl ?_
        refine Seq.p rfl Ev.move ?_
        refine Seq.gy rfl rfl rfl ?_
        refine Seq.p rfl Ev.move ?_
        refine Seq.gy rfl rfl rfl ?_
        refine Seq.p rfl (Ev.indexStr st.string) ?_
        refine Seq.gy rfl rfl rfl ?_
        refine Seq.p rfl Ev.gt ?_
        refine Seq.p rfl Ev.pickF ?_
        exact Seq.nil ⟨rfl, (by repeat (first | with_reducible exact Off.refl | refine Off.upd ?_ rfl | exact Off.mix | refine Off.mix2 ?_ rfl)), Look.here⟩
      refine Seq.nil ?_
      first | refine JC.c (ht := fun c40 => ?_) (hf := fun c40 => ?_) | refine JC.cb (ht := fun c40 => ?_) (hf := fun c40 => ?_)
      · -- then_t40
        refine JC.rs ?_
        refine Seq.p rfl Ev.assign ?_
        refine Seq.p rfl Ev.assign ?_
        refine Seq.nil ?_
        refine JC.ret ?_
        -- return 1
        show retQ _ _ _ _ _ _ _ _
        refine ret2 (hp := Part.nil _) (hpost := ?_)
        have h40 : c.toNat < 48 ∨ 57 < c.toNat := by rw [hc] at c40; simp only [Bool.or_eq_true, decide_eq_true_eq] at c40; omega
        rw [hq, if_pos h40]
        rfl
      · -- else_t40
        have h40 : ¬ (c.toNat < 48 ∨ 57 < c.toNat) := by rw [hc] at c40; simp only [Bool.or_eq_false_iff, decide_eq_false_iff_not] at c40; omega
        rw [if_neg h40] at hq
        have hw8 : IntKind.u8.wrap ((c.toNat : Int) - 48) = (c.toNat : Int) - 48 := by rw [wrap_u8']; omega
        refine JC.skip ?_
        refine JC.rs ?_
        refine Seq.p rfl Ev.move ?_
        refine Seq.p rfl Ev.move ?_
        refine Seq.p rfl (Ev.indexStr st.string) ?_
        refine Seq.p rfl Ev.subW ?_
        refine Seq.p rfl (Ev.convU64W it.uint8 it.uint64) ?_
        refine Seq.p rfl Ev.assign ?_
        refine Seq.nil ?_
        refine JC.seq ?_
        refine JC.rs ?_
        refine Seq.p rfl Ev.move ?_
        refine Seq.p rfl Ev.move ?_
        refine Seq.p rfl Ev.subU ?_
        refine Seq.p rfl Ev.quoU ?_
        refine Seq.p rfl Ev.gt ?_
        refine Seq.nil ?_
        first | refine JC.c (ht := fun c50 => ?_) (hf := fun c50 => ?_) | refine JC.cb (ht := fun c50 => ?_) (hf := fun c50 => ?_)
        · -- then_t50
          refine JC.rs ?_
          refine Seq.p rfl Ev.assign ?_
          refine Seq.p rfl Ev.assign ?_
          refine Seq.nil ?_
          refine JC.ret ?_
          -- return 2
          show retQ _ _ _ _ _ _ _ _
          refine ret2 (hp := Part.nil _) (hpost := ?_)
          rw [hc, hw8] at c50
          rw [hq, if_pos (by omega)]
          rfl
        · -- else_t50
          refine JC.skip ?_
          refine JC.reg ?_
          refine Seq.p rfl Ev.move ?_
          refine Seq.p rfl Ev.mulU ?_
          refine Seq.p rfl Ev.move ?_
          refine Seq.p rfl Ev.addU ?_
          refine Seq.p rfl Ev.assign ?_
          refine Seq.nil ?_
          refine JC.reg ?_
          refine Seq.p rfl Ev.move ?_
          refine Seq.p rfl (by first | exact Ev.inc | exact Ev.add) ?_
          refine Seq.p rfl Ev.assign ?_
          refine Seq.nil ?_
          rw [hc, hw8] at c50
          rw [if_neg (by omega)] at hq
          refine ⟨(i + 1, n * 10 + (c.toNat - 48)), _, Part.refl _, ⟨Has.mk (by repeat (first | refine Off.upd ?_ rfl | exact Off.mix | refine Off.mix2 ?_ rfl | exact Off.refl)) (allLook_cons (look_int (by repeat (first | exact Look.here | apply Look.there (hne := rfl) | exact Look.const | apply Look.mix rfl | exact Look.arg0 | apply Look.args | exact Look.func)) (by rw [hc, hw8]; omega)) (allLook_cons (by repeat (first | exact Look.here | apply Look.there (hne := rfl) | exact Look.const | apply Look.mix rfl | exact Look.arg0 | apply Look.args | exact Look.func)) allLook_nil)), rfl, by show i + 1 ≤ s.size; omega, by show n * 10 + (c.toNat - 48) ≤ _; omega, hq⟩, by show s.size - (i + 1) < s.size - i; omega⟩
    · -- else_t28
      refine JC.exit ?_ -- 0
      refine JC.rs ?_
      refine Seq.p rfl Ev.move ?_
      refine Seq.p rfl Ev.assign ?_
      refine Seq.p rfl Ev.assign ?_
      refine Seq.nil ?_
      refine JC.ret ?_
      -- return 3
      show retQ _ _ _ _ _ _ _ _
      refine ret2 (hp := Part.nil _) (hpost := ?_)
      obtain rfl : i = s.size := by omega
      rw [hq, List.drop_of_length_le (by simp)]
      rfl
end Go.Rx
