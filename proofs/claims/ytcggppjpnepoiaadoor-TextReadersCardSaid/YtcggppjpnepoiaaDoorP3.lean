/- Tags and refusals of the program. -/
import Derived.Test.YtcggppjpnepoiaaDoorP2
namespace Go.Rx
open Go Go.RowKit
set_option linter.unusedVariables false
def idxT (p : Tg → Bool) (xs : List Tg) : Int := match xs.findIdx? p with | some i => i | none => -1
theorem idxT_here (p : Tg → Bool) (xs : List Tg) (i : Nat) (hi : i < xs.length) (hlt : ∀ j, j < i → p xs[j]! = false) (hp : p xs[i]! = true) : idxT p xs = i := by
  unfold idxT
  have : xs.findIdx? p = some i := by
    rw [List.findIdx?_eq_some_iff_getElem]
    refine ⟨hi, by rw [getElem!_pos xs i hi] at hp; exact hp, fun j hj => ?_⟩
    have := hlt j hj
    rw [getElem!_pos xs j (by omega)] at this
    simpa using this
  rw [this]
theorem idxT_none (p : Tg → Bool) (xs : List Tg) (hlt : ∀ j, j < xs.length → p xs[j]! = false) : idxT p xs = -1 := by
  unfold idxT
  have : xs.findIdx? p = none := by
    rw [List.findIdx?_eq_none_iff]
    intro x hx
    obtain ⟨j, hj, rfl⟩ := List.getElem_of_mem hx
    have := hlt j hj
    rwa [getElem!_pos xs j hj] at this
  rw [this]
theorem indexFuncT {w : World} {v : Value} {xs : List Tg} {f : FuncId} {first cap : List Value} {p : Tg → Bool} (hr : RSl Tg.enc 2 w [] v xs)
    (hp : ∀ x w', Upd w w' [] [] → Spec Go.Proofs.Tryd.prog f (first ++ [Value.agg x.enc.toArray] ++ cap).toArray w' [] (fun u _ => u = Value.bool (p x))) :
    Spec Go.Proofs.Tryd.prog 85 #[v, .func (.func f) first.toArray cap.toArray] w [] (fun u _ => u = .int .i64 (idxT p xs)) := by
  have hsm := hr.small
  refine Spec.enter (fn := Go.Proofs.Tryd.f85) (n := 19) [v, .func (.func f) first.toArray cap.toArray] Go.Proofs.Tryd.func85 (by kernel_rfl) rfl Go.Proofs.Tryd.ntmps85 Go.Proofs.Tryd.results85 rfl (Own.nil _) ?_
  refine JC.rs ?_
  refine Seq.p rfl Ev.assign ?_
  refine Seq.nil ?_
  refine JC.seq ?_
  refine JC.rs ?_
  refine Seq.p rfl Ev.move ?_
  refine Seq.p rfl (Ev.lenSl sl.sl_api_Tag (hr := hr.r)) ?_
  refine Seq.p rfl Ev.move ?_
  refine Seq.nil ?_
  refine JC.blk ?_
  refine JC.loop (α := Nat) (I := fun i e1 H1 => Has [4, 5, 8, 9, 10, 11, 12, 13, 14, 15, 16, 17, 18] [(8, .int .i64 (i : Int))] _ e1 ∧ H1 = [] ∧ i ≤ xs.length ∧ ∀ j, j < i → p xs[j]! = false) (μ := fun i => xs.length - i) 0 ⟨Has.mk Off.refl (allLook_cons (by repeat (first | exact Look.here | apply Look.there (hne := rfl) | exact Look.const | apply Look.mix rfl | exact Look.arg0 | apply Look.args | exact Look.func)) allLook_nil), rfl, by omega, by omega⟩ ?_
  rintro i _ _ ⟨⟨u, rfl⟩, rfl, hi, hlt⟩; dsimp only [setL]
  refine JC.rs ?_
  refine Seq.p rfl Ev.lt ?_
  refine Seq.nil ?_
  refine JC.seq ?_
  refine JC.c (ht := fun hc => ?_) (hf := fun hc => ?_)
  · -- t9
    refine JC.skip ?_
    refine JC.seq ?_
    refine JC.blk ?_
    refine JC.rs ?_
    refine Seq.p rfl Ev.move ?_
    refine Seq.p rfl Ev.assign ?_
    refine Seq.nil ?_
    refine JC.rs ?_
    refine Seq.p rfl Ev.move ?_
    refine Seq.p rfl Ev.move ?_
    refine Seq.p rfl Ev.move ?_
    refine Seq.p rfl (Ev.iaN sl.sl_api_Tag (hr := hr.r)) ?_
    refine Seq.p rfl (Ev.ldEA ag.api_Tag (hr := hr.r)) ?_
    refine Seq.callvP rfl rfl (fun w hw => hp _ w hw) ?_
    refine Seq.nil ?_
    refine JC.cb (ht := fun hc => ?_) (hf := fun hc => ?_)
    · -- t16
      refine JC.rs ?_
      refine Seq.p rfl Ev.move ?_
      refine Seq.p rfl Ev.assign ?_
      refine Seq.nil ?_
      refine JC.ret ?_
      show retQ _ _ _ _ _ .ret _ _; refine ret1 (hp := Part.nil _) (hpost := ?_)
      rw [idxT_here p xs i (by omega) hlt hc]
    · -- not t16
      refine JC.skip ?_
      refine JC.reg ?_
      refine Seq.p rfl (by first | exact Ev.inc | exact Ev.add) ?_
      refine Seq.p rfl Ev.move ?_
      refine Seq.nil ?_
      refine ⟨i + 1, _, Part.refl _, ⟨Has.mk (by repeat (first | refine Off.upd ?_ rfl | exact Off.mix | refine Off.mix2 ?_ rfl | exact Off.refl)) (allLook_cons (by repeat (first | exact Look.here | apply Look.there (hne := rfl) | exact Look.const | apply Look.mix rfl | exact Look.arg0 | apply Look.args | exact Look.func)) allLook_nil), rfl, by omega, ?_⟩, by omega⟩
      intro j hj
      by_cases h : j = i
      · subst h; exact hc
      · exact hlt j (by omega)
  · -- not t9
    refine JC.exit ?_ -- 0
    refine JC.rs ?_
    refine Seq.p rfl Ev.assign ?_
    refine Seq.nil ?_
    refine JC.ret ?_
    show retQ _ _ _ _ _ .ret _ _; refine ret1 (hp := Part.nil _) (hpost := ?_)
    rw [idxT_none p xs (fun j hj => hlt j (by omega))]
theorem idxT_any (p : Tg → Bool) (xs : List Tg) : decide (0 ≤ idxT p xs) = xs.any p := by
  unfold idxT
  cases h : xs.findIdx? p with
  | some i =>
    have h2 : xs.any p = true := by
      obtain ⟨hi, hp, _⟩ := List.findIdx?_eq_some_iff_getElem.1 h
      exact List.any_eq_true.2 ⟨xs[i], List.getElem_mem _, hp⟩
    rw [h2]
    exact decide_eq_true (by show (0 : Int) ≤ (i : Int); omega)
  | none =>
    have h2 : xs.any p = false := by
      rw [List.any_eq_false]
      intro x hx
      have := List.findIdx?_eq_none_iff.1 h x hx
      simpa using this
    rw [h2]
    rfl
set_option maxRecDepth 100000 in
theorem containsFuncT {w : World} {v : Value} {xs : List Tg} {f : FuncId} {first cap : List Value} {p : Tg → Bool} (hr : RSl Tg.enc 2 w [] v xs)
    (hp : ∀ x w', Upd w w' [] [] → Spec Go.Proofs.Tryd.prog f (first ++ [Value.agg x.enc.toArray] ++ cap).toArray w' [] (fun u _ => u = Value.bool (p x))) :
    Spec Go.Proofs.Tryd.prog 59 #[v, .func (.func f) first.toArray cap.toArray] w [] (fun u _ => u = .bool (xs.any p)) := by
  refine Spec.enter (fn := Go.Proofs.Tryd.f59) (n := 9) [v, .func (.func f) first.toArray cap.toArray] Go.Proofs.Tryd.func59 (by kernel_rfl) rfl Go.Proofs.Tryd.ntmps59 Go.Proofs.Tryd.results59 rfl (Own.nil _) ?_
  refine JC.rs ?_
  refine Seq.p rfl Ev.assign ?_
  refine Seq.nil ?_
  refine JC.rs ?_
  refine Seq.p rfl Ev.move ?_
  refine Seq.p rfl Ev.move ?_
  refine Seq.callP rfl (fun w hw => indexFuncT (hr.up hw) (fun x w' hw' => hp x w' ((Upd.grow hw hw').part (Part.nil _)))) ?_
  refine Seq.p rfl Ev.ge ?_
  refine Seq.p rfl Ev.assign ?_
  refine Seq.nil ?_
  refine JC.ret ?_
  -- return 0
  show retQ _ _ _ _ _ _ _ _
  refine ret1 (hp := Part.nil _) (hpost := ?_)
  rw [← idxT_any]
theorem refusedClosure {w : World} {x : Tg} {b : Nat} {id : Int} (hc : Cell w [] ⟨b, 0, none⟩ (.int .i64 id)) :
    Spec Go.Proofs.Tryd.prog 60 #[.agg x.enc.toArray, .pointer (some ⟨b, 0, none⟩)] w [] (fun u _ => u = .bool (decide (x.tag = id))) := by
  refine Spec.enter (fn := Go.Proofs.Tryd.f60) (n := 9) [.agg x.enc.toArray, .pointer (some ⟨b, 0, none⟩)] Go.Proofs.Tryd.func60 (by kernel_rfl) rfl Go.Proofs.Tryd.ntmps60 Go.Proofs.Tryd.results60 rfl (Own.nil _) ?_
  refine JC.rs ?_
  refine Seq.box (cs := [_, _]) (k := ?_); intro b2
  refine Seq.p rfl Ev.assign ?_
  refine Seq.nil ?_
  refine JC.rs ?_
  refine Seq.p rfl (Ev.faB fd.api_Tag_0) ?_
  refine Seq.p rfl (Ev.ldB sc.int) ?_
  refine Seq.p rfl (Ev.faB fd.api_Tag_0) ?_
  refine Seq.p rfl (Ev.ldS sc.int (Cells.cell hc)) ?_
  refine Seq.p rfl Ev.eq ?_
  refine Seq.p rfl Ev.assign ?_
  refine Seq.nil ?_
  refine JC.ret ?_
  -- return 0
  show retQ _ _ _ _ _ _ _ _
  refine ret1 (hp := Part.nil _) (hpost := ?_)
  rfl
end Go.Rx
namespace Go.Proofs.YtcggppjpnepoiaaDoor
open Go Go.RowKit Go.Lib Go.Rx
set_option linter.unusedVariables false
theorem cells4 (w : World) (T : TypeId) : ∀ j, j < [8, 9, 10, (35 : Int)].length → (w.alloc (.cells #[.int .i64 8, .int .i64 9, .int .i64 10, .int .i64 35] T)).cell? ⟨w.heap.size, 0 + j, none⟩ = some (.int .i64 ([8, 9, 10, (35 : Int)].getD j 0)) := by
  intro j hj
  rw [World.cell?_alloc_new]
  match j, hj with
  | 0, _ => rfl
  | 1, _ => rfl
  | 2, _ => rfl
  | 3, _ => rfl
theorem tag_mem {n : Int} (h : 1 ≤ n ∧ n ≤ 9999) : (!([8, 9, 10, (35 : Int)].take 4).contains n) = tagB n := by
  unfold tagB
  rw [decide_eq_true h.1, decide_eq_true h.2]
  rw [Bool.eq_iff_iff]
  simp
  omega
theorem tagB_out {n : Int} (h : ¬ (1 ≤ n ∧ n ≤ 9999)) : tagB n = false := by
  unfold tagB
  have e : (decide (1 ≤ n) && decide (n ≤ 9999)) = false := by
    simp only [Bool.and_eq_false_iff, decide_eq_false_iff_not]
    omega
  rw [e]
  rfl
set_option maxHeartbeats 1000000 in
set_option maxRecDepth 100000 in
theorem isTagC (n : Int) (w : World) : Calls Go.Proofs.Tryd.prog 58 #[.int .i64 n] w fun e w' => e = .returned (.bool (tagB n)) ∧ Below w.heap.size w w' := by
  by_cases h : 1 ≤ n ∧ n ≤ 9999
  · have hk := tag_mem h
    obtain ⟨b, hb⟩ : ∃ b, ([8, 9, 10, (35 : Int)].take 4).contains n = b := ⟨_, rfl⟩
    have hc := fun T => Go.Proofs.Tryd.slices_Contains_int w.heap.size 0 4 4 [8, 9, 10, 35] n (w.alloc (.cells #[.int .i64 8, .int .i64 9, .int .i64 10, .int .i64 35] T)) (by decide) (by decide) (cells4 w T)
    rw [hb] at hk
    simp only [hb] at hc
    go_enter Go.Proofs.Tryd.func58, Go.Proofs.Tryd.ntmps58
    go_wp2_with (go_at_call 84; refine (hc _).mono ?_; rintro e w1 ⟨rfl, rfl⟩)
    go_ret
    exact ⟨rfl, (Below.refl _ _).alloc (Nat.le_refl _) _⟩
  · rw [tagB_out h]
    go_enter Go.Proofs.Tryd.func58, Go.Proofs.Tryd.ntmps58
    go_wp2
    all_goals (go_ret; exact ⟨rfl, Below.refl _ _⟩)
theorem textIsTag {n : Int} {w : World} : Go.Rx.Spec Go.Proofs.Tryd.prog 58 #[.int .i64 n] w [] (fun u _ => u = .bool (tagB n)) :=
  spec_of_below ⟨Go.Proofs.Tryd.f58, Go.Proofs.Tryd.func58, by kernel_rfl, rfl⟩ (isTagC n w)
end Go.Proofs.YtcggppjpnepoiaaDoor
namespace Go.Rx
open Go Go.RowKit Go.Proofs.YtcggppjpnepoiaaDoor
set_option linter.unusedVariables false
/-- Why a field cannot stand behind others. -/
def refusedF (xs : List Tg) (t : Tg) : Int := if (!tagB t.tag || thereB xs t.tag) = true then 30 else if (!valueB t.value) = true then 31 else 0
set_option maxHeartbeats 1000000 in
set_option maxRecDepth 100000 in
theorem textRefused {w : World} {v : Value} {xs : List Tg} {t : Tg} (hr : RSl Tg.enc 2 w [] v xs) (hsz : t.value.size ≤ 281474976710656) :
    Spec Go.Proofs.Tryd.prog 39 #[v, .agg t.enc.toArray] w [] (fun u _ => u = .int .i64 (refusedF xs t)) := by
  refine Spec.enter (fn := Go.Proofs.Tryd.f39) (n := 20) [v, .agg t.enc.toArray] Go.Proofs.Tryd.func39 (by kernel_rfl) rfl Go.Proofs.Tryd.ntmps39 Go.Proofs.Tryd.results39 rfl (Own.nil _) ?_
  refine JC.rs ?_
  refine Seq.box (cs := [_, _]) (k := ?_); intro b3
  refine Seq.p rfl Ev.assign ?_
  refine Seq.nil ?_
  refine JC.seq ?_
  refine JC.blk ?_
  refine JC.rs ?_
  refine Seq.p rfl (Ev.faB fd.api_Tag_0) ?_
  refine Seq.p rfl (Ev.ldB sc.int) ?_
  refine Seq.callP rfl (fun w hw => textIsTag) ?_
  refine Seq.p rfl Ev.not ?_
  refine Seq.p rfl Ev.move ?_
  refine Seq.orG (D := [10, 11, 12, 13, 14]) (d := 10) (t := 14) (k := 4) (hn := fun h10 => ?_) (hx := ?_)
  · repeat (first | refine Seq.gn rfl rfl rfl rfl ?_ | refine Seq.gu rfl rfl rfl ?_)
    refine Seq.p rfl Ev.pickT ?_
    exact Seq.nil ⟨rfl, (by repeat (first | with_reducible exact Off.refl | refine Off.upd ?_ rfl | exact Off.mix | refine Off.mix2 ?_ rfl)), Look.here⟩
  apply Exists.intro
  refine ⟨fun h10 => ?_, fun u14 => ?_⟩
  · try simp only [decide_eq_true_eq, decide_eq_false_iff_not, Bool.and_eq_true, Bool.or_eq_true, Bool.not_eq_true', Bool.not_eq_false', Bool.or_eq_false_iff, Bool.and_eq_false_imp] at h10
    refine Seq.gy rfl rfl rfl ?_
    refine Seq.p rfl Ev.move ?_
    refine Seq.gy rfl rfl rfl ?_
    refine Seq.p rfl Ev.func ?_
    refine Seq.gy rfl rfl rfl ?_
    refine Seq.callP rfl (fun w' hw => containsFuncT (first := []) (cap := [.pointer (some ⟨b3, 0, none⟩)]) (p := fun o => decide (o.tag = t.tag)) (hr.up hw) (fun x w'' h => refusedClosure ((box_cell hw At.z rfl).at_ h))) ?_
    refine Seq.p rfl Ev.pickF ?_
    exact Seq.nil ⟨rfl, (by repeat (first | with_reducible exact Off.refl | refine Off.upd ?_ rfl | exact Off.mix | refine Off.mix2 ?_ rfl)), Look.here⟩
  refine Seq.p rfl Ev.assign ?_
  refine Seq.nil ?_
  first | refine JC.c (ht := fun c5 => ?_) (hf := fun c5 => ?_) | refine JC.cb (ht := fun c5 => ?_) (hf := fun c5 => ?_)
  · -- then_t5
    refine JC.rs ?_
    refine Seq.p rfl Ev.assign ?_
    refine Seq.nil ?_
    refine JC.ret ?_
    -- return 0
    show retQ _ _ _ _ _ _ _ _
    refine ret1 (hp := Part.nil _) (hpost := ?_)
    have h : (!tagB t.tag || thereB xs t.tag) = true := c5
    rw [refusedF, if_pos h]
  · -- else_t5
    refine JC.rs ?_
    refine Seq.p rfl (Ev.faB fd.api_Tag_1) ?_
    refine Seq.p rfl (Ev.ldB sc.string) ?_
    refine Seq.callP rfl (fun w hw => textIsValue hsz) ?_
    refine Seq.p rfl Ev.not ?_
    refine Seq.p rfl Ev.assign ?_
    refine Seq.nil ?_
    first | refine JC.c (ht := fun c15 => ?_) (hf := fun c15 => ?_) | refine JC.cb (ht := fun c15 => ?_) (hf := fun c15 => ?_)
    · -- then_t15
      refine JC.rs ?_
      refine Seq.p rfl Ev.assign ?_
      refine Seq.nil ?_
      refine JC.ret ?_
      -- return 1
      show retQ _ _ _ _ _ _ _ _
      refine ret1 (hp := Part.nil _) (hpost := ?_)
      have h : (!tagB t.tag || thereB xs t.tag) = false := c5
      rw [refusedF, h, if_neg (by decide)]
      first | rw [if_pos c15] | (simp at c15; simp [c15])
    · -- else_t15
      refine JC.skip ?_
      refine JC.rs ?_
      refine Seq.p rfl Ev.assign ?_
      refine Seq.nil ?_
      refine JC.ret ?_
      -- return 2
      show retQ _ _ _ _ _ _ _ _
      refine ret1 (hp := Part.nil _) (hpost := ?_)
      have h : (!tagB t.tag || thereB xs t.tag) = false := c5
      rw [refusedF, h, if_neg (by decide)]
      first | rw [if_neg c15] | (simp at c15; simp [c15])
end Go.Rx
