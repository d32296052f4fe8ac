/- What trails a line, by the program. -/
import Derived.Test.YtcggppjpnepoiaaDoorR1
namespace Go.Rx
open Go Go.RowKit Go.Lib Go.Proofs.YtcggppjpnepoiaaDoor
set_option linter.unusedVariables false
set_option linter.unusedSimpArgs false
/-- Seven bytes that are a last field of any sum. -/
def trailB (t : List Int) : Bool := (((t.drop 3).take 3).all digit && decide (t.take 3 = [49, 48, 61])) && decide (t[6]! = 1)
theorem all_get {l : List Int} {p : Int → Bool} : l.all p = true ↔ ∀ i < l.length, p l[i]! = true := by
  rw [List.all_eq_true]
  constructor
  · intro h i hi
    rw [getElem!_pos l i hi]
    exact h _ (List.getElem_mem _)
  · intro h x hx
    obtain ⟨i, hi, rfl⟩ := List.getElem_of_mem hx
    have := h i hi
    rwa [getElem!_pos l i hi] at this
theorem all_not {l : List Int} {p : Int → Bool} {i : Nat} (hi : i < l.length) (h : p l[i]! = false) : l.all p = false := by
  cases ha : l.all p with
  | false => rfl
  | true => rw [all_get.1 ha i hi] at h; cases h
set_option maxHeartbeats 2000000 in
set_option maxRecDepth 100000 in
theorem textTrailed {w : World} {v : Value} {t : List Int} (hr : RSl byteEnc 1 w [] v t) (hB : isBytes t) (h7 : t.length = 7) :
    Spec Go.Proofs.Tryd.prog 49 #[v] w [] (fun u _ => u = .bool (trailB t)) := by
  have hsub : RSl byteEnc 1 w [] (subSl v 3 6 1) ((t.drop 3).take 3) := hr.sub (lo := 3) (hi := 6) (by omega) (by omega)
  have hhead : RSl byteEnc 1 w [] (subSl v 0 3 1) (t.take 3) := by
    have h2 := hr.sub (lo := 0) (hi := 3) (by omega) (by omega)
    rwa [List.drop_zero] at h2
  have hl3 : ((t.drop 3).take 3).length = 3 := by rw [List.length_take, List.length_drop]; omega
  generalize hm : (t.drop 3).take 3 = m at hsub hl3
  refine Spec.enter (fn := Go.Proofs.Tryd.f49) (n := 29) [v] Go.Proofs.Tryd.func49 (by kernel_rfl) rfl Go.Proofs.Tryd.ntmps49 Go.Proofs.Tryd.results49 rfl (Own.nil _) ?_
  refine JC.rs ?_
  refine Seq.p rfl Ev.assign ?_
  refine Seq.nil ?_
  refine JC.seq ?_
  refine JC.rs ?_
  refine Seq.p rfl Ev.move ?_
  refine Seq.p rfl (Ev.cut sl.sl_uint8 (hr := hr.r) (l := 3) (h := 6) (hlo := ⟨_, (by repeat (first | exact Look.here | apply Look.there (hne := rfl) | exact Look.const | apply Look.mix rfl | exact Look.arg0 | apply Look.args | exact Look.func))⟩) (hhi := ⟨_, (by repeat (first | exact Look.here | apply Look.there (hne := rfl) | exact Look.const | apply Look.mix rfl | exact Look.arg0 | apply Look.args | exact Look.func))⟩)) ?_
  refine Seq.p rfl (Ev.lenSl sl.sl_uint8 (hr := hsub.r)) ?_
  refine Seq.p rfl Ev.move ?_
  refine Seq.nil ?_
  refine JC.blk ?_
  refine JC.loop (α := Nat) (I := fun i e1 H1 => Has [2, 4, 8, 9, 10, 11, 12, 13, 14, 15, 16, 17, 18] [(8, .int .i64 (i : Int))] _ e1 ∧ H1 = _ ∧ i ≤ m.length ∧ ∀ j < i, digit m[j]! = true) (μ := fun i => m.length - i) 0 ⟨Has.mk Off.refl (allLook_cons (by repeat (first | exact Look.here | apply Look.there (hne := rfl) | exact Look.const | apply Look.mix rfl | exact Look.arg0 | apply Look.args | exact Look.func)) allLook_nil), rfl, by omega, by omega⟩ ?_
  rintro i _ _ ⟨⟨u, rfl⟩, rfl, hi, hno⟩; dsimp only [setL]
  refine JC.rs ?_
  refine Seq.p rfl Ev.lt ?_
  refine Seq.nil ?_
  refine JC.seq ?_
  first | refine JC.c (ht := fun c9 => ?_) (hf := fun c9 => ?_) | refine JC.cb (ht := fun c9 => ?_) (hf := fun c9 => ?_)
  · -- then_t9
    have hi2 : i < m.length := by omega
    refine JC.skip ?_
    refine JC.seq ?_
    refine JC.blk ?_
    refine JC.rs ?_
    refine Seq.p rfl (Ev.iaN sl.sl_uint8 (hr := hsub.r)) ?_
    refine Seq.p rfl (Ev.ldE1 sc.uint8 (hr := hsub.r)) ?_
    refine Seq.p rfl Ev.assign ?_
    refine Seq.nil ?_
    refine JC.rs ?_
    refine Seq.p rfl Ev.move ?_
    refine Seq.p rfl Ev.lt ?_
    refine Seq.p rfl Ev.move ?_
    refine Seq.orG (D := [14, 15, 16, 17]) (d := 14) (t := 17) (k := 3) (hn := fun h14 => ?_) (hx := ?_)
    · repeat (first | refine Seq.gn rfl rfl rfl rfl ?_ | refine Seq.gu rfl rfl rfl ?_)
      refine Seq.p rfl Ev.pickT ?_
      exact Seq.nil ⟨rfl, (by repeat (first | with_reducible exact Off.refl | refine Off.upd ?_ rfl | exact Off.mix | refine Off.mix2 ?_ rfl)), Look.here⟩
    apply Exists.intro
    refine ⟨fun h14 => ?_, fun u17 => ?_⟩
    · try simp only [decide_eq_true_eq, decide_eq_false_iff_not, Bool.and_eq_true, Bool.or_eq_true, Bool.not_eq_true', Bool.not_eq_false', Bool.or_eq_false_iff, Bool.and_eq_false_imp] at h14
      refine Seq.gy rfl rfl rfl ?_
      refine Seq.p rfl Ev.move ?_
      refine Seq.gy rfl rfl rfl ?_
      refine Seq.p rfl Ev.gt ?_
      refine Seq.p rfl Ev.pickF ?_
      exact Seq.nil ⟨rfl, (by repeat (first | with_reducible exact Off.refl | refine Off.upd ?_ rfl | exact Off.mix | refine Off.mix2 ?_ rfl)), Look.here⟩
    refine Seq.nil ?_
    first | refine JC.c (ht := fun c17 => ?_) (hf := fun c17 => ?_) | refine JC.cb (ht := fun c17 => ?_) (hf := fun c17 => ?_)
    · -- then_t17
      refine JC.rs ?_
      refine Seq.p rfl Ev.assign ?_
      refine Seq.nil ?_
      refine JC.ret ?_
      -- return 0
      show retQ _ _ _ _ _ _ _ _
      refine ret1 (hp := Part.nil _) (hpost := ?_)
      have hd : digit m[i]! = false := by unfold digit; simp only [Bool.or_eq_true, decide_eq_true_eq] at c17; simp only [Bool.and_eq_false_iff, decide_eq_false_iff_not]; omega
      unfold trailB
      rw [hm, all_not hi2 hd]
      rfl
    · -- else_t17
      refine JC.skip ?_
      refine JC.reg ?_
      refine Seq.p rfl (by first | exact Ev.inc | exact Ev.add) ?_
      refine Seq.p rfl Ev.move ?_
      refine Seq.nil ?_
      have hd : digit m[i]! = true := by unfold digit; simp only [Bool.or_eq_false_iff, decide_eq_false_iff_not] at c17; simp only [Bool.and_eq_true, decide_eq_true_eq]; omega
      refine ⟨i + 1, _, Part.refl _, ⟨Has.mk (by repeat (first | refine Off.upd ?_ rfl | exact Off.mix | refine Off.mix2 ?_ rfl | exact Off.refl)) (allLook_cons (by repeat (first | exact Look.here | apply Look.there (hne := rfl) | exact Look.const | apply Look.mix rfl | exact Look.arg0 | apply Look.args | exact Look.func)) allLook_nil), rfl, by omega, fun j hj => ?_⟩, by omega⟩
      by_cases h : j = i
      · rw [h]; exact hd
      · exact hno j (by omega)
  · -- else_t9
    have ha : m.all digit = true := all_get.2 fun j hj => hno j (by omega)
    refine JC.exit ?_ -- 0
    refine JC.rs ?_
    refine Seq.p rfl Ev.move ?_
    refine Seq.p rfl (Ev.cut sl.sl_uint8 (hr := hr.r) (l := 0) (h := 3) (hlo := rfl) (hhi := ⟨_, (by repeat (first | exact Look.here | apply Look.there (hne := rfl) | exact Look.const | apply Look.mix rfl | exact Look.arg0 | apply Look.args | exact Look.func))⟩)) ?_
    refine Seq.p rfl (Ev.strOf (l := t.take 3) sl.sl_uint8 it.uint8 st.string (hr := hhead.r)) ?_
    refine Seq.p rfl Ev.eqStr ?_
    refine Seq.p rfl Ev.move ?_
    refine Seq.andG (D := [23, 24, 25, 26, 27, 28]) (d := 23) (t := 28) (k := 5) (hn := fun h23 => ?_) (hx := ?_)
    · repeat (first | refine Seq.gn rfl rfl rfl rfl ?_ | refine Seq.gu rfl rfl rfl ?_)
      refine Seq.p rfl Ev.pickF ?_
      exact Seq.nil ⟨rfl, (by repeat (first | with_reducible exact Off.refl | refine Off.upd ?_ rfl | exact Off.mix | refine Off.mix2 ?_ rfl)), Look.here⟩
    apply Exists.intro
    refine ⟨fun h23 => ?_, fun u28 => ?_⟩
    · try simp only [decide_eq_true_eq, decide_eq_false_iff_not, Bool.and_eq_true, Bool.or_eq_true, Bool.not_eq_true', Bool.not_eq_false', Bool.or_eq_false_iff, Bool.and_eq_false_imp] at h23
      refine Seq.gy rfl rfl rfl ?_
      refine Seq.p rfl Ev.move ?_
      refine Seq.gy rfl rfl rfl ?_
      refine Seq.p rfl (Ev.iaN sl.sl_uint8 (i := 6) (hr := hr.r) (hi := by rw [h7]; decide)) ?_
      refine Seq.gy rfl rfl rfl ?_
      refine Seq.p rfl (Ev.ldE1 sc.uint8 (i := 6) (hr := hr.r) (hi := by rw [h7]; decide)) ?_
      refine Seq.gy rfl rfl rfl ?_
      refine Seq.p rfl Ev.eq ?_
      refine Seq.p rfl Ev.pickT ?_
      exact Seq.nil ⟨rfl, (by repeat (first | with_reducible exact Off.refl | refine Off.upd ?_ rfl | exact Off.mix | refine Off.mix2 ?_ rfl)), Look.here⟩
    refine Seq.p rfl Ev.assign ?_
    refine Seq.nil ?_
    refine JC.ret ?_
    -- return 1
    show retQ _ _ _ _ _ _ _ _
    refine ret1 (hp := Part.nil _) (hpost := ?_)
    unfold trailB
    rw [hm, ha, Bool.true_and]
    congr 1
    congr 1
    rw [decide_eq_decide]
    rw [show (⟨#[49, 48, 61]⟩ : ByteArray) = strOf [49, 48, 61] from rfl]
    exact strOf_inj (fun n hn => hB n (List.mem_of_mem_take hn)) (by decide)
end Go.Rx
