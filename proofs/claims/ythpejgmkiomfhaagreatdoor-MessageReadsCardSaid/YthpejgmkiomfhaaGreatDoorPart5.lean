/- Parts of the proof. -/
import Derived.Test.YthpejgmkiomfhaaGreatDoorPart4
import Derived.Test.YthpejgmkiomfhaaGreatDoorRxL2
import Derived.Test.YthpejgmkiomfhaaGreatDoorPart3
set_option linter.unusedVariables false
set_option linter.unusedSimpArgs false
/- An event's line: plain, and as the document tells it. -/
namespace Go.Rx
open Go Go.RowKit Go.Lib Go.Proofs.YthpejgmkiomfhaaGreatDoor
set_option linter.unusedVariables false
set_option linter.unusedSimpArgs false
def evTg (e : Event) (f : RF) : Tg := ⟨f.tag, decS (eventValueF e f.tag).1.toNat⟩
def kindTg (e : Event) : Tg := ⟨150, decS e.kind.toNat⟩
def evTags (e : Event) : List RF → List Tg
  | [] => []
  | f :: r => evTg e f :: kindTg e :: r.map (evTg e)
theorem evTags_snoc (e : Event) {a : List RF} (h : a ≠ []) (f : RF) : evTags e (a ++ [f]) = evTags e a ++ [evTg e f] := by
  cases a with
  | nil => exact absurd rfl h
  | cons x r => simp [evTags]
theorem evTags_len (e : Event) {a : List RF} (h : a ≠ []) : (evTags e a).length = a.length + 1 := by
  cases a with
  | nil => exact absurd rfl h
  | cons x r => simp [evTags]
theorem evTags_le (e : Event) (a : List RF) : (evTags e a).length ≤ a.length + 1 := by
  cases a with
  | nil => exact Nat.zero_le _
  | cons x r => simp [evTags]
theorem evTags_mem (e : Event) {l : List RF} {t : Tg} (h : t ∈ evTags e l) : t = kindTg e ∨ ∃ f ∈ l, t = evTg e f := by
  cases l with
  | nil => cases h
  | cons x r =>
    simp only [evTags, List.mem_cons, List.mem_map] at h
    rcases h with rfl | rfl | ⟨f, hf, rfl⟩
    · exact .inr ⟨x, List.mem_cons_self .., rfl⟩
    · exact .inl rfl
    · exact .inr ⟨f, List.mem_cons_of_mem _ hf, rfl⟩
def evLineF (e : Event) : Int × List Int := if refEvE e = 0 then encF ⟨#[56]⟩ (evTags e (toldRF e.kind)) else (refEvE e, [])
theorem mod_rng (x : Int) : 0 ≤ x % 18446744073709551616 ∧ x % 18446744073709551616 ≤ 18446744073709551615 := by omega
theorem eventValueF_range {e : Event} (hw : e.Wf) (t : Int) : 0 ≤ (eventValueF e t).1 ∧ (eventValueF e t).1 ≤ 18446744073709551615 := by
  obtain ⟨p, hp⟩ : ∃ p, p = eventValueF e t := ⟨_, rfl⟩
  rw [← hp]
  unfold eventValueF at hp
  by_cases h34 : t = 34
  · rw [if_pos h34] at hp; subst hp; exact hw.seq
  rw [if_neg h34] at hp
  by_cases h11 : t = 11
  · rw [if_pos h11] at hp; subst hp; exact hw.id
  rw [if_neg h11] at hp
  by_cases h41 : t = 41
  · rw [if_pos h41] at hp; subst hp; exact hw.target
  rw [if_neg h41] at hp
  by_cases h37 : t = 37
  · rw [if_pos h37] at hp; subst hp; exact hw.other
  rw [if_neg h37] at hp
  by_cases h1 : t = 1
  · rw [if_pos h1] at hp; subst hp; exact mod_rng _
  rw [if_neg h1] at hp
  by_cases h38 : t = 38
  · rw [if_pos h38] at hp; subst hp; exact hw.qty
  rw [if_neg h38] at hp
  by_cases h210 : t = 210
  · rw [if_pos h210] at hp; subst hp; exact hw.peak
  rw [if_neg h210] at hp
  subst hp
  exact mod_rng _
theorem evValsGo_vals {i : Event} : ∀ (l : List RF) (s s' : Event × List Int), evValsGo i l s = some s' → s'.2 = s.2 ++ l.map fun f => (eventValueF i f.tag).1
  | [], s, s', h => by
    simp only [evValsGo, Option.some.injEq] at h
    subst h
    simp
  | f :: r, s, s', h => by
    simp only [evValsGo] at h
    cases hs : evStepF i f s with
    | none => rw [hs] at h; cases h
    | some q =>
      rw [hs] at h
      have h2 := evValsGo_vals r q s' h
      unfold evStepF at hs
      split at hs
      · cases hs
      · split at hs
        · cases hs
        · simp only [Option.some.injEq] at hs
          subst hs
          rw [h2]
          simp
theorem told_tags {k : Int} : ∀ f ∈ toldRF k, f.tag.toNat < 10000 := by
  have h : ((toldRF k).all fun f => decide (f.tag.toNat < 10000)) = true := by
    unfold toldRF
    repeat (first | rfl | split)
  intro f hf
  exact of_decide_eq_true (List.all_eq_true.1 h f hf)
set_option maxHeartbeats 2000000 in
set_option maxRecDepth 100000 in
theorem refEventLine0 {w : World} {e : Event} (hE : ¬ refEvE e = 0) : Spec Go.Proofs.Tryz.prog 35 #[.agg e.enc.toArray] w [] (LinePost (evLineF e)) := by
  have hl : evLineF e = (refEvE e, []) := if_neg hE
  rw [hl]
  refine Spec.enter (fn := Go.Proofs.Tryz.f35) (n := 54) [.agg e.enc.toArray] Go.Proofs.Tryz.func35 (by kernel_rfl) rfl Go.Proofs.Tryz.ntmps35 Go.Proofs.Tryz.results35 rfl (Own.nil _) ?_
  refine JC.re (fun w h => h.nilOwn 5 1) ?_
  refine JC.rs ?_
  refine Seq.box (cs := [_, _, _, _, _, _, _, _, _, _, _, _, _]) (k := ?_); intro b1
  refine Seq.p rfl Ev.assign ?_
  refine Seq.p rfl Ev.assign ?_
  refine Seq.nil ?_
  refine JC.rs ?_
  refine Seq.p rfl (Ev.ldBA ag.api_Event) ?_
  refine Seq.call rfl (fun w hw => refEvValues) (F := _) (by exact List.Perm.refl _) ?_
  intro u N hN
  rw [EvValuesPost, if_neg hE] at hN
  subst hN
  refine Seq.re (fun w h => h.part ⟨N, List.perm_append_comm⟩) ?_
  refine Seq.p rfl Ev.move ?_
  refine Seq.p rfl Ev.extract ?_
  refine Seq.p rfl Ev.extract ?_
  refine Seq.p rfl Ev.assign ?_
  refine Seq.p rfl Ev.assign ?_
  refine Seq.nil ?_
  refine JC.seq ?_
  refine JC.rs ?_
  refine Seq.p rfl Ev.move ?_
  refine Seq.p rfl Ev.ne ?_
  refine Seq.nil ?_
  first | refine JC.c (ht := fun c15 => ?_) (hf := fun c15 => ?_) | refine JC.cb (ht := fun c15 => ?_) (hf := fun c15 => ?_)
  · -- then_t15
    refine JC.rs ?_
    refine Seq.p rfl Ev.move ?_
    refine Seq.p rfl Ev.assign ?_
    refine Seq.p rfl Ev.assign ?_
    refine Seq.nil ?_
    refine JC.ret ?_
    -- return 0
    show retQ _ _ _ _ _ _ _ _
    refine ret2 (H' := [bytesC (.slice none 0 0) []]) (hp := (by repeat (first | exact Part.nil _ | refine Part.at (by repeat (first | exact At.z | apply At.s)) ?_))) (hpost := ?_)
    exact ⟨none, 0, rfl, rfl⟩
  · -- else_t15
    exact absurd hE c15
set_option maxHeartbeats 2000000 in
set_option maxRecDepth 100000 in
theorem refEventLine1 {w : World} {e : Event} (hw0 : e.Wf) (hE : refEvE e = 0) : Spec Go.Proofs.Tryz.prog 35 #[.agg e.enc.toArray] w [] (LinePost (evLineF e)) := by
  have hl : evLineF e = encF ⟨#[56]⟩ (evTags e (toldRF e.kind)) := if_pos hE
  rw [hl]
  have hsm := toldRF_small e.kind
  have htg := told_tags (k := e.kind)
  obtain ⟨l, hl0⟩ : ∃ l, l = toldRF e.kind := ⟨_, rfl⟩
  rw [← hl0]
  rw [← hl0] at hsm htg
  have hn1 : 1 ≤ e.kind ∧ e.kind ≤ 5 := Classical.not_not.1 fun h => by
    have h2 : refEvE e = 41 := if_pos h
    omega
  have hkr : (decS e.kind.toNat).size ≤ 20 := (decS_facts (n := e.kind.toNat) (by omega)).2.1
  have htz : ∀ t ∈ evTags e l, t.tag.toNat < 10000 ∧ t.value.size ≤ 20 := fun t ht => by
    rcases evTags_mem e ht with rfl | ⟨f, hf, rfl⟩
    · exact ⟨by show Int.toNat 150 < _; decide, hkr⟩
    · have hr := eventValueF_range hw0 f.tag
      exact ⟨htg f hf, (decS_facts (n := (eventValueF e f.tag).1.toNat) (by omega)).2.1⟩
  refine Spec.enter (fn := Go.Proofs.Tryz.f35) (n := 54) [.agg e.enc.toArray] Go.Proofs.Tryz.func35 (by kernel_rfl) rfl Go.Proofs.Tryz.ntmps35 Go.Proofs.Tryz.results35 rfl (Own.nil _) ?_
  refine JC.rs ?_
  refine Seq.box (cs := [_, _, _, _, _, _, _, _, _, _, _, _, _]) (k := ?_); intro b1
  refine Seq.p rfl Ev.assign ?_
  refine Seq.p rfl Ev.assign ?_
  refine Seq.nil ?_
  refine JC.rs ?_
  refine Seq.p rfl (Ev.ldBA ag.api_Event) ?_
  refine Seq.call rfl (fun w hw => refEvValues) (F := _) (by exact List.Perm.refl _) ?_
  intro u N hN
  rw [EvValuesPost, if_pos hE] at hN
  obtain ⟨s, A, cc, hn0, hv, rfl, rfl⟩ := hN
  have hls : s.2 = l.map fun f => (eventValueF e f.tag).1 := by have := evValsGo_vals _ _ _ hv; rw [← hl0] at this; simpa using this
  obtain ⟨vs, hvs⟩ : ∃ x, x = s.2 := ⟨_, rfl⟩
  rw [← hvs] at hls
  rw [← hvs]
  have hvl : vs.length = l.length := by rw [hls, List.length_map]
  have hlp : 1 ≤ l.length := by rw [hl0]; exact toldRF_pos hn0
  have hlne : l ≠ [] := fun h => by rw [h] at hlp; simp at hlp
  have hxl := evTags_len e hlne
  have hbd : (bodyL ⟨#[56]⟩ (evTags e l)).length ≤ 1099511627776 := body_short (by decide) (by omega) htz
  obtain ⟨ec, hec⟩ : ∃ x, x = encF ⟨#[56]⟩ (evTags e l) := ⟨_, rfl⟩
  rw [← hec]
  refine Seq.p rfl Ev.move ?_
  refine Seq.p rfl Ev.extract ?_
  refine Seq.p rfl Ev.extract ?_
  refine Seq.p rfl Ev.assign ?_
  refine Seq.p rfl Ev.assign ?_
  refine Seq.nil ?_
  refine JC.seq ?_
  refine JC.rs ?_
  refine Seq.p rfl Ev.move ?_
  refine Seq.p rfl Ev.ne ?_
  refine Seq.nil ?_
  first | refine JC.c (ht := fun c15 => ?_) (hf := fun c15 => ?_) | refine JC.cb (ht := fun c15 => ?_) (hf := fun c15 => ?_)
  · -- then_t15
    exact absurd rfl c15
  · -- else_t15
    refine JC.skip ?_
    refine JC.rs ?_
    refine Seq.p rfl (Ev.faB fd.api_Event_1) ?_
    refine Seq.p rfl (Ev.ldB sc.int) ?_
    refine Seq.call rfl (fun w hw => hl0 ▸ refTold hn0) (F := _) (by exact List.Perm.refl _) ?_
    rintro _ _ ⟨bl, rfl, rfl⟩
    refine Seq.p rfl Ev.assign ?_
    refine Seq.nil ?_
    refine JC.rs ?_
    refine Seq.p rfl Ev.assign ?_
    refine Seq.re (fun w h => Upd.nilOwn h 74 2) ?_
    refine Seq.nil ?_
    refine JC.seq ?_
    refine JC.rs ?_
    refine Seq.p rfl Ev.assign ?_
    refine Seq.nil ?_
    refine JC.blk ?_
    refine JC.loop (α := Nat) (I := fun k e1 H1 => ∃ A2 c2 xs, Has [7, 8, 20, 21, 22, 23, 24, 25, 26, 27, 28, 29, 30, 31, 32, 33, 34, 35, 36, 37, 38, 39, 40, 41, 42, 43, 44, 45, 46, 47, 48, 49] [(8, .int .i64 (k : Int)), (7, .slice A2 xs.length c2)] _ e1 ∧ H1 = [tagsC (.slice A2 xs.length c2) xs, .box bl 71 (l.flatMap RF.enc), .own 24 1 (.slice A vs.length cc) vs.length (vs.flatMap uenc), .box b1 34 e.enc] ∧ k ≤ l.length ∧ xs = evTags e (l.take k)) (μ := fun k => l.length - k) 0 ⟨none, 0, [], Has.mk Off.refl (allLook_cons (by repeat (first | exact Look.here | apply Look.there (hne := rfl) | exact Look.const | apply Look.mix rfl | exact Look.arg0 | apply Look.args | exact Look.func)) (allLook_cons (by repeat (first | exact Look.here | apply Look.there (hne := rfl) | exact Look.const | apply Look.mix rfl | exact Look.arg0 | apply Look.args | exact Look.func)) allLook_nil)), rfl, by omega, rfl⟩ ?_
    rintro k _ _ ⟨A2, c2, xs, ⟨ui, rfl⟩, rfl, hk, hx⟩; dsimp only [setL]
    refine JC.seq ?_
    refine JC.rs ?_
    refine Seq.p rfl Ev.move ?_
    refine Seq.p rfl Ev.move ?_
    refine Seq.p rfl (Ev.lenSl sl.sl_bourseref04_field (hr := RAt.box (enc := RF.enc) (sz := 4) (hs := by omega))) ?_
    refine Seq.p rfl Ev.lt ?_
    refine Seq.nil ?_
    first | refine JC.c (ht := fun c23 => ?_) (hf := fun c23 => ?_) | refine JC.cb (ht := fun c23 => ?_) (hf := fun c23 => ?_)
    · -- then_t23
      have hk2 : k < l.length := by omega
      have hvk : vs[k]! = (eventValueF e (l[k]!).tag).1 := by rw [hls, getElem!_pos _ k (by rw [List.length_map]; exact hk2), List.getElem_map, getElem!_pos l k hk2]
      have hrg := eventValueF_range hw0 (l[k]!).tag
      rw [← hvk] at hrg
      have hdec : ∀ w' : World, Spec Go.Proofs.Tryz.prog 32 #[.int .u64 (vs[k]!)] w' [] (fun u _ => u = .string (decS (vs[k]!).toNat)) := fun w' => by
        have h := refDecimal (w := w') (n := (vs[k]!).toNat) (by omega)
        rw [show (((vs[k]!).toNat : Nat) : Int) = vs[k]! by omega] at h
        exact h
      have hdec2 : ∀ w' : World, Spec Go.Proofs.Tryz.prog 32 #[.int .u64 e.kind] w' [] (fun u _ => u = .string (decS e.kind.toNat)) := fun w' => by
        have h := refDecimal (w := w') (n := e.kind.toNat) (by omega)
        rw [show ((e.kind.toNat : Nat) : Int) = e.kind by omega] at h
        exact h
      have hxk : xs.length ≤ 9 := by rw [hx]; have := evTags_le e (l.take k); rw [List.length_take] at this; omega
      have htk : l.take (k + 1) = l.take k ++ [l[k]!] := by rw [List.take_succ_eq_append_getElem hk2, getElem!_pos l k hk2]
      refine JC.skip ?_
      refine JC.seq ?_
      refine JC.blk ?_
      refine JC.asE 0 mixed ?_
      refine Any.p 0 rfl (by kernel_rfl) (by kernel_rfl) (by kernel_rfl) rfl Ev.move ?_
      refine Any.p 1 rfl (by kernel_rfl) (by kernel_rfl) (by kernel_rfl) rfl Ev.move ?_
      refine Any.p 2 rfl (by kernel_rfl) (by kernel_rfl) (by kernel_rfl) rfl Ev.move ?_
      refine Any.p 3 rfl (by kernel_rfl) (by kernel_rfl) (by kernel_rfl) rfl (Ev.iaN sl.sl_bourseref04_field (hr := RAt.box (enc := RF.enc) (sz := 4) (hs := by omega))) ?_
      refine Any.p 4 rfl (by kernel_rfl) (by kernel_rfl) (by kernel_rfl) rfl (Ev.fa fd.bourseref04_field_0) ?_
      refine Any.p 5 rfl (by kernel_rfl) (by kernel_rfl) (by kernel_rfl) rfl (Ev.ldE sc.int (hr := RAt.box (enc := RF.enc) (sz := 4) (hs := by omega))) ?_
      refine Any.p 6 rfl (by kernel_rfl) (by kernel_rfl) (by kernel_rfl) rfl Ev.move ?_
      refine Any.p 7 rfl (by kernel_rfl) (by kernel_rfl) (by kernel_rfl) rfl Ev.move ?_
      refine Any.p 8 rfl (by kernel_rfl) (by kernel_rfl) (by kernel_rfl) rfl (Ev.iaN sl.sl_uint64 (hr := RAt.own (enc := uenc) (xs := vs) (sz := 1) (hs := by omega))) ?_
      refine Any.p 9 rfl (by kernel_rfl) (by kernel_rfl) (by kernel_rfl) rfl (Ev.ldE1 sc.uint64 (hr := RAt.own (enc := uenc) (xs := vs) (sz := 1) (hs := by omega))) ?_
      refine Any.call 10 rfl (by kernel_rfl) (by kernel_rfl) (by kernel_rfl) rfl (fun w hw => hdec _) ?_
      refine Any.p 11 rfl (by kernel_rfl) (by kernel_rfl) (by kernel_rfl) rfl (Ev.buildN [_, _] pl.api_Tag z.api_Tag) ?_
      refine Any.one 12 rfl (by kernel_rfl) ?_
      refine Seq.buildSlN [_, _] (hsl := sl.sl_api_Tag) (hz := z.api_Tag) (k := ?_); intro b38
      refine Seq.nil ⟨(by repeat (first | exact Part.refl _ | exact Part.nil _ | apply Part.here | apply Part.skip)), ?_⟩
      refine Any.one 13 rfl (by kernel_rfl) ?_
      refine Seq.append (hsl := sl.sl_api_Tag) (he := el.api_Tag) (hsrc := (fun w' hw => Src.box (hl := by rfl) (hc := fun q u hu => hu) sl.sl_api_Tag At.z hw)) (k := ?_); intro A39 c39
      refine Seq.nil ⟨(by repeat (first | exact Part.refl _ | exact Part.nil _ | apply Part.here | apply Part.skip)), ?_⟩
      refine Any.p 14 rfl (by kernel_rfl) (by kernel_rfl) (by kernel_rfl) rfl Ev.assign ?_
      refine Any.done (by kernel_rfl) ?_
      refine JC.rs ?_
      refine Seq.p rfl Ev.move ?_
      refine Seq.p rfl Ev.eq ?_
      refine Seq.nil ?_
      first | refine JC.c (ht := fun c41 => ?_) (hf := fun c41 => ?_) | refine JC.cb (ht := fun c41 => ?_) (hf := fun c41 => ?_)
      · -- then_t41
        obtain rfl : k = 0 := by omega
        have hx0 : xs = [] := by rw [hx]; rfl
        have hxs : xs ++ [evTg e l[0]!] ++ [kindTg e] = evTags e (l.take (0 + 1)) := by rw [hx0, htk]; rfl
        refine JC.reg ?_
        refine Seq.p rfl Ev.move ?_
        refine Seq.p rfl (Ev.faB fd.api_Event_1) ?_
        refine Seq.p rfl (Ev.ldB sc.int) ?_
        refine Seq.p rfl (Ev.convU64 it.int it.uint64) ?_
        refine Seq.callP rfl (fun w hw => hdec2 _) ?_
        refine Seq.p rfl (Ev.buildN [_, _] pl.api_Tag z.api_Tag) ?_
        refine Seq.buildSlN [_, _] (hsl := sl.sl_api_Tag) (hz := z.api_Tag) (k := ?_); intro b48
        refine Seq.append (hsl := sl.sl_api_Tag) (he := el.api_Tag) (hsrc := (fun w' hw => Src.box (hl := by rfl) (hc := fun q u hu => hu) sl.sl_api_Tag At.z hw)) (k := ?_); intro A49 c49
        refine Seq.p rfl Ev.assign ?_
        refine Seq.nil ?_
        refine JC.reg ?_
        refine Seq.p rfl Ev.move ?_
        refine Seq.p rfl (by first | exact Ev.inc | exact Ev.add) ?_
        refine Seq.p rfl Ev.assign ?_
        refine Seq.nil ?_
        first
          | (have hst : tagsC (.slice A49 (xs ++ [evTg e l[0]!] ++ [kindTg e]).length c49) (xs ++ [evTg e l[0]!] ++ [kindTg e]) = .own 74 2 (.slice A49 (xs.length + 1 + 1) c49) (xs.length + 1 + 1) (xs.flatMap Tg.enc ++ [.int .i64 (l[0]!).tag, .string (decS (vs[0]!).toNat)] ++ [.int .i64 150, .string (decS e.kind.toNat)]) := by rw [hvk]; simp [tagsC, Tg.enc, evTg, kindTg, List.flatMap_append]
             exact ⟨0 + 1, [_, _, _, _], Part.skip (Part.skip (Part.refl _)), ⟨A49, c49, xs ++ [evTg e l[0]!] ++ [kindTg e], Has.mk (by repeat (first | refine Off.upd ?_ rfl | exact Off.mix | refine Off.mix2 ?_ rfl | exact Off.refl)) (allLook_cons (by repeat (first | exact Look.here | apply Look.there (hne := rfl) | exact Look.const | apply Look.mix rfl | exact Look.arg0 | apply Look.args | exact Look.func)) (allLook_cons (by rw [List.length_append, List.length_append]; exact (by repeat (first | exact Look.here | apply Look.there (hne := rfl) | exact Look.const | apply Look.mix rfl | exact Look.arg0 | apply Look.args | exact Look.func))) allLook_nil)), by rw [hst], by omega, hxs⟩, by omega⟩)
          | (have hst : tagsC (.slice A39 (xs ++ [evTg e l[k]!]).length c39) (xs ++ [evTg e l[k]!]) = .own 74 2 (.slice A39 (xs.length + 1) c39) (xs.length + 1) (xs.flatMap Tg.enc ++ [.int .i64 (l[k]!).tag, .string (decS (vs[k]!).toNat)]) := by rw [hvk]; simp [tagsC, Tg.enc, evTg, List.flatMap_append]
             exact ⟨k + 1, [_, _, _, _], Part.skip (Part.refl _), ⟨A39, c39, xs ++ [evTg e l[k]!], Has.mk (by repeat (first | refine Off.upd ?_ rfl | exact Off.mix | refine Off.mix2 ?_ rfl | exact Off.refl)) (allLook_cons (by repeat (first | exact Look.here | apply Look.there (hne := rfl) | exact Look.const | apply Look.mix rfl | exact Look.arg0 | apply Look.args | exact Look.func)) (allLook_cons (by rw [List.length_append]; exact (by repeat (first | exact Look.here | apply Look.there (hne := rfl) | exact Look.const | apply Look.mix rfl | exact Look.arg0 | apply Look.args | exact Look.func))) allLook_nil)), by rw [hst], by omega, hxs⟩, by omega⟩)
      · -- else_t41
        have hne : l.take k ≠ [] := fun h => by have := congrArg List.length h; rw [List.length_take, List.length_nil] at this; omega
        have hxs : xs ++ [evTg e l[k]!] = evTags e (l.take (k + 1)) := by rw [htk, evTags_snoc e hne, hx]
        refine JC.skip ?_
        refine JC.reg ?_
        refine Seq.p rfl Ev.move ?_
        refine Seq.p rfl (by first | exact Ev.inc | exact Ev.add) ?_
        refine Seq.p rfl Ev.assign ?_
        refine Seq.nil ?_
        first
          | (have hst : tagsC (.slice A49 (xs ++ [evTg e l[0]!] ++ [kindTg e]).length c49) (xs ++ [evTg e l[0]!] ++ [kindTg e]) = .own 74 2 (.slice A49 (xs.length + 1 + 1) c49) (xs.length + 1 + 1) (xs.flatMap Tg.enc ++ [.int .i64 (l[0]!).tag, .string (decS (vs[0]!).toNat)] ++ [.int .i64 150, .string (decS e.kind.toNat)]) := by rw [hvk]; simp [tagsC, Tg.enc, evTg, kindTg, List.flatMap_append]
             exact ⟨0 + 1, [_, _, _, _], Part.skip (Part.skip (Part.refl _)), ⟨A49, c49, xs ++ [evTg e l[0]!] ++ [kindTg e], Has.mk (by repeat (first | refine Off.upd ?_ rfl | exact Off.mix | refine Off.mix2 ?_ rfl | exact Off.refl)) (allLook_cons (by repeat (first | exact Look.here | apply Look.there (hne := rfl) | exact Look.const | apply Look.mix rfl | exact Look.arg0 | apply Look.args | exact Look.func)) (allLook_cons (by rw [List.length_append, List.length_append]; exact (by repeat (first | exact Look.here | apply Look.there (hne := rfl) | exact Look.const | apply Look.mix rfl | exact Look.arg0 | apply Look.args | exact Look.func))) allLook_nil)), by rw [hst], by omega, hxs⟩, by omega⟩)
          | (have hst : tagsC (.slice A39 (xs ++ [evTg e l[k]!]).length c39) (xs ++ [evTg e l[k]!]) = .own 74 2 (.slice A39 (xs.length + 1) c39) (xs.length + 1) (xs.flatMap Tg.enc ++ [.int .i64 (l[k]!).tag, .string (decS (vs[k]!).toNat)]) := by rw [hvk]; simp [tagsC, Tg.enc, evTg, List.flatMap_append]
             exact ⟨k + 1, [_, _, _, _], Part.skip (Part.refl _), ⟨A39, c39, xs ++ [evTg e l[k]!], Has.mk (by repeat (first | refine Off.upd ?_ rfl | exact Off.mix | refine Off.mix2 ?_ rfl | exact Off.refl)) (allLook_cons (by repeat (first | exact Look.here | apply Look.there (hne := rfl) | exact Look.const | apply Look.mix rfl | exact Look.arg0 | apply Look.args | exact Look.func)) (allLook_cons (by rw [List.length_append]; exact (by repeat (first | exact Look.here | apply Look.there (hne := rfl) | exact Look.const | apply Look.mix rfl | exact Look.arg0 | apply Look.args | exact Look.func))) allLook_nil)), by rw [hst], by omega, hxs⟩, by omega⟩)
    · -- else_t23
      obtain rfl : k = l.length := by omega
      rw [List.take_length] at hx
      refine JC.exit ?_ -- 0
      refine JC.rs ?_
      refine Seq.p rfl Ev.move ?_
      refine Seq.call rfl (fun w' hw => by have h := refEncode (w := w') (kind := ⟨#[56]⟩) (xs := xs) (RAt.up (RAt.own (enc := Tg.enc) (xs := xs) (hs := by rw [hx]; omega)) hw) (by decide) (by rw [hx]; intro t ht; have := (htz t ht).2; omega) (by rw [hx]; exact hbd); rw [hx, ← hec] at h; rw [hx]; exact h) (F := _) (by exact List.Perm.refl _) ?_
      rintro _ _ ⟨A51, c51, rfl, rfl⟩
      simp only [List.cons_append, List.nil_append]
      refine Seq.p rfl Ev.extract ?_
      refine Seq.p rfl Ev.extract ?_
      refine Seq.p rfl Ev.assign ?_
      refine Seq.p rfl Ev.assign ?_
      refine Seq.nil ?_
      refine JC.ret ?_
      -- return 0
      show retQ _ _ _ _ _ _ _ _
      refine ret2 (H' := [bytesC (.slice A51 ec.2.length c51) ec.2]) (hp := (by repeat (first | exact Part.nil _ | refine Part.at (by repeat (first | exact At.z | apply At.s)) ?_))) (hpost := ?_)
      exact ⟨A51, c51, rfl, rfl⟩
theorem refEventLine {w : World} {e : Event} (hw0 : e.Wf) : Spec Go.Proofs.Tryz.prog 35 #[.agg e.enc.toArray] w [] (LinePost (evLineF e)) := by
  by_cases hE : refEvE e = 0
  · exact refEventLine1 hw0 hE
  · exact refEventLine0 hE
end Go.Rx
/- spoil: what was told is written over. -/
namespace Go.Rx
open Go Go.RowKit Go.Lib Go.Proofs.YthpejgmkiomfhaaGreatDoor
set_option linter.unusedVariables false
set_option linter.unusedSimpArgs false
end Go.Rx
/- An event's line: the program's tags are the document's. -/
namespace Go.Rx
open Go Go.RowKit Go.Lib Go.Proofs.YthpejgmkiomfhaaGreatDoor
set_option linter.unusedVariables false
set_option linter.unusedSimpArgs false
theorem toldEvE_eq {e : Event} (hw : e.Wf) : toldEvE e = refEvE e := by
  have h := congrArg Prod.snd (packEv_eq hw)
  unfold packEvF refPackEvF at h
  by_cases h1 : toldEvE e = 0
  · by_cases h2 : refEvE e = 0
    · rw [h1, h2]
    · rw [if_pos h1, if_neg h2] at h
      exact absurd h.symm h2
  · by_cases h2 : refEvE e = 0
    · rw [if_neg h1, if_pos h2] at h
      exact absurd h h1
    · rw [if_neg h1, if_neg h2] at h
      exact h
theorem toldEv_same {e : Event} {fs : List Fld} (hF : evFieldsF e = some fs) : fs.map tgOf = (toldRF e.kind).map (evTg e) := by
  unfold evFieldsF at hF
  by_cases h1 : e.kind = 1
  · rw [if_pos h1] at hF
    cases hF
    rw [h1]
    rfl
  rw [if_neg h1] at hF
  by_cases h2 : e.kind = 2
  · rw [if_pos h2] at hF
    cases hF
    rw [h2]
    rfl
  rw [if_neg h2] at hF
  by_cases h3 : e.kind = 3
  · rw [if_pos h3] at hF
    cases hF
    rw [h3]
    rfl
  rw [if_neg h3] at hF
  by_cases h4 : e.kind = 4
  · rw [if_pos h4] at hF
    cases hF
    rw [h4]
    rfl
  rw [if_neg h4] at hF
  by_cases h5 : e.kind = 5
  · rw [if_pos h5] at hF
    cases hF
    rw [h5]
    rfl
  rw [if_neg h5] at hF
  cases hF
/-- What slices.Insert puts in at place 1. -/
theorem evTags_ins (e : Event) {l : List RF} (h : l ≠ []) : evTags e l = (l.map (evTg e)).take 1 ++ kindTg e :: (l.map (evTg e)).drop 1 := by
  cases l with
  | nil => exact absurd rfl h
  | cons x r => simp [evTags]
/-- An event's line as the program tells it: its fields with the kind put in at place 1. -/
theorem evLineF_ok {e : Event} {fs : List Fld} (hw : e.Wf) (h : toldEvE e = 0) (hF : evFieldsF e = some fs) : evLineF e = encF ⟨#[56]⟩ ((fs.map tgOf).take 1 ++ kindTg e :: (fs.map tgOf).drop 1) := by
  have h2 : refEvE e = 0 := by rw [← toldEvE_eq hw]; exact h
  have hk := (evFieldsF_small hF).2
  have hne : toldRF e.kind ≠ [] := fun h => by
    have := toldRF_pos hk
    rw [h] at this
    simp at this
  unfold evLineF
  rw [if_pos h2, toldEv_same hF, evTags_ins e hne]
theorem evLineF_err {e : Event} (hw : e.Wf) (h : ¬ toldEvE e = 0) : evLineF e = (toldEvE e, []) := by
  unfold evLineF
  rw [← toldEvE_eq hw, if_neg h]
end Go.Rx
/- slices.Insert at tags: one tag at place 1. -/
namespace Go.Rx
open Go Go.RowKit Go.Lib Go.Proofs.YthpejgmkiomfhaaGreatDoor
set_option linter.unusedVariables false
set_option linter.unusedSimpArgs false
theorem tags_len (xs : List Tg) : (xs.flatMap Tg.enc).length = xs.length * 2 := by
  induction xs with
  | nil => rfl
  | cons x xs ih => rw [List.flatMap_cons, List.length_append, ih, List.length_cons, Nat.add_mul]; show 2 + _ = _; omega
theorem tags_one (xs : List Tg) : ∀ u ∈ xs.flatMap Tg.enc, u.oneCell' = true := by
  intro u hu
  obtain ⟨t, _, ht⟩ := List.mem_flatMap.1 hu
  simp only [Tg.enc, List.mem_cons, List.not_mem_nil, or_false] at ht
  rcases ht with rfl | rfl <;> rfl
theorem ins_grow {a2 R Y zs : List Value} (ha : a2.length = 2) (hY : Y.length = 2) (hz : zs.length = 2 + R.length) :
    let c1 := ((a2 ++ R).take 2 ++ zs).take 2 ++ Y ++ ((a2 ++ R).take 2 ++ zs).drop (2 + Y.length)
    c1.take 4 ++ R ++ c1.drop (4 + R.length) = a2 ++ Y ++ R := by
  intro c1
  have h1 : (a2 ++ R).take 2 = a2 := by rw [← ha]; exact List.take_left
  have hc : c1 = a2 ++ Y ++ zs.drop 2 := by
    show ((a2 ++ R).take 2 ++ zs).take 2 ++ Y ++ ((a2 ++ R).take 2 ++ zs).drop (2 + Y.length) = _
    rw [h1, hY]
    congr 1
    · congr 1
      rw [← ha]; exact List.take_left
    · rw [List.drop_append, List.drop_eq_nil_of_le (by omega), List.nil_append]
      congr 1
      omega
  have h4 : (a2 ++ Y).length = 4 := by rw [List.length_append]; omega
  rw [hc]
  have e1 : (a2 ++ Y ++ zs.drop 2).take 4 = a2 ++ Y := by rw [← h4]; exact List.take_left
  have e2 : (a2 ++ Y ++ zs.drop 2).drop (4 + R.length) = [] := List.drop_eq_nil_of_le (by rw [List.length_append, h4, List.length_drop]; omega)
  rw [e1, e2, List.append_nil]
theorem ins_room {a2 R Y zs : List Value} {k : Nat} (ha : a2.length = 2) (hY : Y.length = 2) (hR : 2 ≤ R.length) (hz : 2 ≤ zs.length) (hk : k = 4 + R.length) :
    let c0 := a2 ++ R ++ zs
    let c1 := c0.take 4 ++ R ++ c0.drop (4 + R.length)
    (c1.take 2 ++ Y ++ c1.drop (2 + Y.length)).take k = a2 ++ Y ++ R := by
  intro c0 c1
  have h4 : (c0.take 4).length = 4 := by rw [List.length_take, List.length_append, List.length_append]; omega
  have h2 : c1.take 2 = a2 := by
    show (c0.take 4 ++ R ++ _).take 2 = a2
    rw [List.append_assoc, List.take_append_of_le_length (by omega), List.take_take]
    show (a2 ++ R ++ zs).take 2 = a2
    rw [List.append_assoc, ← ha]
    exact List.take_left
  have h3 : c1.drop 4 = R ++ c0.drop (4 + R.length) := by
    show (c0.take 4 ++ R ++ _).drop 4 = _
    rw [List.append_assoc]
    exact List.drop_left' h4
  rw [h2, hY, h3, hk]
  have h5 : (a2 ++ Y ++ R).length = 4 + R.length := by simp only [List.length_append]; omega
  rw [← List.append_assoc, ← h5]
  exact List.take_left
set_option maxHeartbeats 2000000 in
set_option maxRecDepth 100000 in
theorem msgInsert {w : World} {A : Option Addr} {c bv : Nat} {y : Tg} {xs : List Tg} (h1 : 1 < xs.length) (h64 : xs.length ≤ 64) (ho : Own w [tagsC (.slice A xs.length c) xs, .box bv 74 y.enc]) :
    Spec Go.Proofs.Tryz.prog 40 #[.slice A xs.length c, .int .i64 1, .slice (some ⟨bv, 0, none⟩) 1 1] w [tagsC (.slice A xs.length c) xs, .box bv 74 y.enc]
      (fun u N => ∃ A' c', u = .slice A' (xs.length + 1) c' ∧ N = [tagsC (.slice A' (xs.length + 1) c') (xs.take 1 ++ y :: xs.drop 1)]) := by
  obtain ⟨x0, r, rfl⟩ : ∃ x0 r, xs = x0 :: r := by cases xs with | nil => simp at h1 | cons x r => exact ⟨x, r, rfl⟩
  have hr1 : 1 ≤ r.length := by simp at h1; omega
  have hr64 : r.length ≤ 63 := by simp at h64; omega
  obtain ⟨n, hn⟩ : ∃ n, n = (x0 :: r).length := ⟨_, rfl⟩
  have hnr : n = r.length + 1 := by rw [hn]; rfl
  have htag : ∀ v l, tagsC v l = .own 74 2 v l.length (l.flatMap Tg.enc) := fun _ _ => rfl
  have hfl : (x0 :: r).flatMap Tg.enc = x0.enc ++ r.flatMap Tg.enc := List.flatMap_cons
  have hlen2 : ((x0 :: r).take 1 ++ y :: (x0 :: r).drop 1).length = n + 1 := by simp; omega
  have hcells : ((x0 :: r).take 1 ++ y :: (x0 :: r).drop 1).flatMap Tg.enc = x0.enc ++ y.enc ++ r.flatMap Tg.enc := by simp
  simp only [htag, hlen2, hcells]
  rw [htag] at ho
  rw [hfl, ← hn] at ho ⊢
  have hRl := tags_len r
  have hRo := tags_one r
  obtain ⟨R, hR⟩ : ∃ R, R = r.flatMap Tg.enc := ⟨_, rfl⟩
  rw [← hR] at ho ⊢ hRl hRo
  have hx0 : x0.enc.length = 2 := rfl
  have hy0 : y.enc.length = 2 := rfl
  obtain ⟨a2, ha2⟩ : ∃ a2, a2 = x0.enc := ⟨_, rfl⟩
  rw [← ha2] at ho ⊢ hx0
  have hy1 : ∀ u ∈ y.enc, u.oneCell' = true := by
    have := tags_one [y]
    simpa using this
  obtain ⟨Y, hYe⟩ : ∃ Y, Y = y.enc := ⟨_, rfl⟩
  rw [← hYe] at ho ⊢ hy0 hy1
  clear hn hfl hcells hlen2 htag h1 h64 ha2 hYe hR
  refine Spec.enter (fn := Go.Proofs.Tryz.f40) (n := 95) [.slice A n c, .int .i64 ((1 : Nat) : Int), .slice (some ⟨bv, 0, none⟩) 1 1] Go.Proofs.Tryz.func40 (by kernel_rfl) rfl Go.Proofs.Tryz.ntmps40 Go.Proofs.Tryz.results40 rfl ho ?_
  refine JC.lens At.z ?_
  intro hnc hcm hxl
  obtain ⟨A', hA'⟩ : ∃ A', A = some A' := by
    cases A with
    | some a => exact ⟨a, rfl⟩
    | none =>
      have := ho.ok _ (List.mem_cons_self ..)
      rcases this.2 with ⟨h0, h1⟩ | ⟨g, off, cap, cur, fr, he, _⟩
      · omega
      · cases he
  subst hA'
  obtain ⟨g, off, sp⟩ := A'
  obtain rfl : sp = none := by
    have := ho.ok _ (List.mem_cons_self ..)
    rcases this.2 with ⟨h0, h1⟩ | ⟨g, off, cap, cur, fr, he, _⟩
    · cases h0
    · cases he; rfl
  have hcm' : c ≤ 9223372036854775807 := by simp only [maxLen] at hcm; omega
  refine JC.rs ?_
  refine Seq.p rfl Ev.assign ?_
  refine Seq.nil ?_
  refine JC.rs ?_
  refine Seq.p rfl Ev.move ?_
  refine Seq.p rfl Ev.move ?_
  refine Seq.p rfl (Ev.cutLo (l := 1) sl.sl_api_Tag) ?_
  refine Seq.nil ?_
  refine JC.rs ?_
  refine Seq.p rfl Ev.move ?_
  refine Seq.p rfl (Ev.lenH sl.sl_api_Tag) ?_
  refine Seq.p rfl Ev.assign ?_
  refine Seq.nil ?_
  refine JC.seq ?_
  refine JC.rs ?_
  refine Seq.p rfl Ev.move ?_
  refine Seq.p rfl Ev.eq ?_
  refine Seq.nil ?_
  first | refine JC.c (ht := fun c16 => ?_) (hf := fun c16 => ?_) | refine JC.cb (ht := fun c16 => ?_) (hf := fun c16 => ?_)
  · -- then_t16
    exact absurd c16 (by decide)
  · -- else_t16
    refine JC.skip ?_
    refine JC.rs ?_
    refine Seq.p rfl Ev.move ?_
    refine Seq.p rfl (Ev.lenH sl.sl_api_Tag) ?_
    refine Seq.p rfl Ev.assign ?_
    refine Seq.nil ?_
    refine JC.seq ?_
    refine JC.rs ?_
    refine Seq.p rfl Ev.move ?_
    refine Seq.p rfl Ev.move ?_
    refine Seq.p rfl Ev.eq ?_
    refine Seq.nil ?_
    first | refine JC.c (ht := fun c22 => ?_) (hf := fun c22 => ?_) | refine JC.cb (ht := fun c22 => ?_) (hf := fun c22 => ?_)
    · -- then_t22
      omega
    · -- else_t22
      refine JC.skip ?_
      refine JC.seq ?_
      refine JC.rs ?_
      refine Seq.p rfl Ev.move ?_
      refine Seq.p rfl Ev.move ?_
      refine Seq.p rfl Ev.addN ?_
      refine Seq.p rfl Ev.move ?_
      refine Seq.p rfl (Ev.capSl sl.sl_api_Tag) ?_
      refine Seq.p rfl Ev.gt ?_
      refine Seq.nil ?_
      first | refine JC.c (ht := fun c31 => ?_) (hf := fun c31 => ?_) | refine JC.cb (ht := fun c31 => ?_) (hf := fun c31 => ?_)
      · -- then_t31
        refine JC.rs ?_
        refine Seq.p rfl Ev.move ?_
        refine Seq.p rfl Ev.move ?_
        refine Seq.p rfl (Ev.cutHi (h := 1) sl.sl_api_Tag) ?_
        refine Seq.p rfl Ev.move ?_
        refine Seq.p rfl Ev.move ?_
        refine Seq.p rfl Ev.addN ?_
        refine Seq.p rfl Ev.move ?_
        refine Seq.p rfl (Ev.as (v' := .int .i64 ((n : Nat) : Int)) (by rw [Nat.add_sub_cancel]) (Ev.subN (a := n + 1) (b := 1))) ?_
        refine Seq.growZeros (q := 1) (m := n) (hsl := sl.sl_api_Tag) (he := el.api_Tag) (hi := it.int) (hH := At.z) (kk := ?_); intro b40 c40 zs hzl
        refine Seq.p rfl Ev.assign ?_
        refine Seq.nil ?_
        refine JC.lens At.z ?_
        intro hnc9 hcm9 hxl9
        refine JC.rs ?_
        refine Seq.p rfl Ev.move ?_
        refine Seq.p rfl Ev.move ?_
        refine Seq.p rfl (Ev.cutLo (l := 1) sl.sl_api_Tag) ?_
        refine Seq.p rfl Ev.move ?_
        refine Seq.copyOwn (off := 0) (o := 1 * 2) (k := 1) (i := 0) (hd := sl.sl_api_Tag) (hH := At.z) (hk := Nat.min_eq_left (by omega)) (hcs := Cells.boxed (off := 0) (At.s (At.s At.z)) (fun j u h => by rw [Nat.zero_add]; exact h)) (hl := hy0) (hpos := by omega) (h1 := hy1) (hfit := by omega) (kk := ?_)
        refine Seq.nil ?_
        refine JC.asE 0 mixed ?_
        refine Any.p 0 rfl (by kernel_rfl) (by kernel_rfl) (by kernel_rfl) rfl Ev.move ?_
        refine Any.p 1 rfl (by kernel_rfl) (by kernel_rfl) (by kernel_rfl) rfl Ev.move ?_
        refine Any.p 2 rfl (by kernel_rfl) (by kernel_rfl) (by kernel_rfl) rfl Ev.move ?_
        refine Any.p 3 rfl (by kernel_rfl) (by kernel_rfl) (by kernel_rfl) rfl Ev.addN ?_
        refine Any.p 4 rfl (by kernel_rfl) (by kernel_rfl) (by kernel_rfl) rfl (Ev.cutLo (l := 1 + 1) sl.sl_api_Tag) ?_
        refine Any.p 5 rfl (by kernel_rfl) (by kernel_rfl) (by kernel_rfl) rfl Ev.move ?_
        refine Any.p 6 rfl (by kernel_rfl) (by kernel_rfl) (by kernel_rfl) rfl Ev.move ?_
        refine Any.p 7 rfl (by kernel_rfl) (by kernel_rfl) (by kernel_rfl) rfl (Ev.cutLo (l := 1) sl.sl_api_Tag) ?_
        refine Any.one 8 rfl (by kernel_rfl) ?_
        refine Seq.copyOwn (off := 0) (o := (1 + 1) * 2) (k := n - 1) (i := 0) (hd := sl.sl_api_Tag) (hH := At.z) (hk := Nat.min_eq_left (by omega)) (hcs := Cells.own (o := 1 * 2) (At.s At.z) (cs := R) (fun j u h => by rw [List.getElem?_append_right (by omega), hx0]; simpa using h)) (hl := by omega) (hpos := by omega) (h1 := hRo) (hfit := by omega) (kk := ?_)
        refine Seq.nil ⟨(by repeat (first | exact Part.refl _ | exact Part.nil _ | apply Part.here | apply Part.skip)), ?_⟩
        refine Any.done (by kernel_rfl) ?_
        refine JC.rs ?_
        refine Seq.p rfl Ev.move ?_
        refine Seq.p rfl Ev.assign ?_
        refine Seq.nil ?_
        refine JC.ret ?_
        -- return 0
        show retQ _ _ _ _ _ _ _ _
        refine ret1 (hp := Part.here (Part.nil _)) (hpost := ?_)
        have h := ins_grow (a2 := a2) (R := R) (Y := Y) (zs := zs) hx0 hy0 (by omega)
        rw [Nat.add_comm n 1]
        exact ⟨_, _, rfl, congrArg (fun l => [Chunk.own 74 2 (.slice (some ⟨b40, 0, none⟩) (1 + n) c40) (1 + n) l]) h⟩
      · -- else_t31
        refine JC.full At.z ?_
        intro zs hzl _ _ _
        have hcl : (c - n) * 2 = c * 2 - n * 2 := Nat.sub_mul ..
        refine JC.skip ?_
        refine JC.rs ?_
        refine Seq.p rfl Ev.move ?_
        refine Seq.p rfl Ev.move ?_
        refine Seq.p rfl Ev.move ?_
        refine Seq.p rfl Ev.addN ?_
        refine Seq.p rfl (Ev.cutHi (h := n + 1) sl.sl_api_Tag) ?_
        refine Seq.p rfl Ev.assign ?_
        refine Seq.nil ?_
        refine JC.seq ?_
        refine JC.rs ?_
        refine Seq.p rfl Ev.move ?_
        refine Seq.p rfl Ev.move ?_
        refine Seq.p rfl Ev.move ?_
        refine Seq.p rfl Ev.move ?_
        refine Seq.p rfl Ev.addN ?_
        refine Seq.p rfl (Ev.cutLo (l := 1 + 1) sl.sl_api_Tag) ?_
        refine Seq.p rfl (Ev.notOver (tS := 55) (tR := 4) (i := 1) (j := 0) (off := off) Go.Proofs.Tryz.func62 (by kernel_rfl) (by kernel_rfl) (by kernel_rfl) (by kernel_rfl) (hd := sl.sl_api_Tag) (hA := At.s At.z) (hB := At.z) (hij := by decide) (hxs := by simp only [List.length_append]; omega)) ?_
        refine Seq.p rfl Ev.not ?_
        refine Seq.nil ?_
        first | refine JC.c (ht := fun c68 => ?_) (hf := fun c68 => ?_) | refine JC.cb (ht := fun c68 => ?_) (hf := fun c68 => ?_)
        · -- then_t68
          refine JC.asE 0 mixed ?_
          refine Any.p 0 rfl (by kernel_rfl) (by kernel_rfl) (by kernel_rfl) rfl Ev.move ?_
          refine Any.p 1 rfl (by kernel_rfl) (by kernel_rfl) (by kernel_rfl) rfl Ev.move ?_
          refine Any.p 2 rfl (by kernel_rfl) (by kernel_rfl) (by kernel_rfl) rfl Ev.move ?_
          refine Any.p 3 rfl (by kernel_rfl) (by kernel_rfl) (by kernel_rfl) rfl Ev.addN ?_
          refine Any.p 4 rfl (by kernel_rfl) (by kernel_rfl) (by kernel_rfl) rfl (Ev.cutLo (l := 1 + 1) sl.sl_api_Tag) ?_
          refine Any.p 5 rfl (by kernel_rfl) (by kernel_rfl) (by kernel_rfl) rfl Ev.move ?_
          refine Any.p 6 rfl (by kernel_rfl) (by kernel_rfl) (by kernel_rfl) rfl Ev.move ?_
          refine Any.p 7 rfl (by kernel_rfl) (by kernel_rfl) (by kernel_rfl) rfl (Ev.cutLo (l := 1) sl.sl_api_Tag) ?_
          refine Any.one 8 rfl (by kernel_rfl) ?_
          refine Seq.copyOwn (off := off) (o := (1 + 1) * 2) (k := n - 1) (i := 0) (hd := sl.sl_api_Tag) (hH := At.z) (hk := (Nat.min_eq_right (by omega)).trans (by omega)) (hcs := Cells.own (o := 1 * 2) At.z (cs := R) (fun j u h => by have h9 := (List.getElem?_eq_some_iff.1 h).1; rw [List.append_assoc, List.getElem?_append_right (by omega), List.getElem?_append_left (by omega), hx0]; simpa using h)) (hl := by omega) (hpos := by omega) (h1 := hRo) (hfit := by omega) (kk := ?_)
          refine Seq.nil ⟨(by repeat (first | exact Part.refl _ | exact Part.nil _ | apply Part.here | apply Part.skip)), ?_⟩
          refine Any.done (by kernel_rfl) ?_
          refine JC.rs ?_
          refine Seq.p rfl Ev.move ?_
          refine Seq.p rfl Ev.move ?_
          refine Seq.p rfl (Ev.cutLo (l := 1) sl.sl_api_Tag) ?_
          refine Seq.p rfl Ev.move ?_
          refine Seq.copyOwn (off := off) (o := 1 * 2) (k := 1) (i := 0) (hd := sl.sl_api_Tag) (hH := At.z) (hk := Nat.min_eq_left (by omega)) (hcs := Cells.boxed (off := 0) (At.s At.z) (fun j u h => by rw [Nat.zero_add]; exact h)) (hl := hy0) (hpos := by omega) (h1 := hy1) (hfit := by omega) (kk := ?_)
          refine Seq.nil ?_
          refine JC.rs ?_
          refine Seq.p rfl Ev.move ?_
          refine Seq.p rfl Ev.assign ?_
          refine Seq.nil ?_
          refine JC.re (fun w h => Upd.short (m := n + 1) h At.z (by omega)) ?_
          refine JC.ret ?_
          -- return 1
          show retQ _ _ _ _ _ _ _ _
          refine ret1 (hp := Part.here (Part.nil _)) (hpost := ?_)
          have h := ins_room (a2 := a2) (R := R) (Y := Y) (zs := zs) (k := (n + 1) * 2) hx0 hy0 (by omega) (by omega) (by omega)
          exact ⟨_, _, rfl, congrArg (fun l => [Chunk.own 74 2 (.slice (some ⟨g, off, none⟩) (n + 1) c) (n + 1) l]) h⟩
        · -- else_t68
          cases c68
end Go.Rx
/- The program's EventLine. -/
namespace Go.Rx
open Go Go.RowKit Go.Lib Go.Proofs.YthpejgmkiomfhaaGreatDoor
set_option linter.unusedVariables false
set_option linter.unusedSimpArgs false
theorem evFieldsF_fine {e : Event} (hw : e.Wf) {fs : List Fld} (h : evFieldsF e = some fs) : 2 ≤ fs.length ∧ ∀ f ∈ fs, f.fine ∧ f.tag.toNat < 10000 := by
  have hup : ∀ t n m : Int, t.toNat < 10000 → (upToF t n m).fine ∧ (upToF t n m).tag.toNat < 10000 := fun t n m ht => ⟨⟨by show 0 ≤ n % _; omega, by show n % _ ≤ _; omega⟩, ht⟩
  have hwh : ∀ t n : Int, t.toNat < 10000 → 0 ≤ n ∧ n ≤ 18446744073709551615 → (wholeF t n).fine ∧ (wholeF t n).tag.toNat < 10000 := fun t n ht hn => ⟨hn, ht⟩
  have h1 := hw.seq
  have h2 := hw.id
  have h3 := hw.other
  have h4 := hw.target
  have h5 := hw.member
  have h6 := hw.qty
  have h7 := hw.peak
  unfold evFieldsF at h
  repeat (first | (split at h) | (simp only [Option.some.injEq] at h; subst h; refine ⟨Nat.le_of_ble_eq_true rfl, fun f hf => ?_⟩; simp only [evFields1, evFields2, evFields3, evFields4, evFields5, List.mem_cons, List.not_mem_nil, or_false] at hf; (repeat (first | (rcases hf with rfl | hf; · first | exact hup _ _ _ (by decide) | exact hwh _ _ (by decide) (by omega)) | (subst hf; first | exact hup _ _ _ (by decide) | exact hwh _ _ (by decide) (by omega))))) | cases h)
set_option maxHeartbeats 2000000 in
set_option maxRecDepth 100000 in
theorem msgEventLine0 {w : World} {e : Event} (hw0 : e.Wf) (hE : ¬ toldEvE e = 0) : Spec Go.Proofs.Tryz.prog 16 #[.agg e.enc.toArray] w [] (LinePost (evLineF e)) := by
  rw [evLineF_err hw0 hE]
  refine Spec.enter (fn := Go.Proofs.Tryz.f16) (n := 31) [.agg e.enc.toArray] Go.Proofs.Tryz.func16 (by kernel_rfl) rfl Go.Proofs.Tryz.ntmps16 Go.Proofs.Tryz.results16 rfl (Own.nil _) ?_
  refine JC.re (fun w h => h.nilOwn 5 1) ?_
  refine JC.rs ?_
  refine Seq.box (cs := [_, _, _, _, _, _, _, _, _, _, _, _, _]) (k := ?_); intro b1
  refine Seq.p rfl Ev.assign ?_
  refine Seq.p rfl Ev.assign ?_
  refine Seq.nil ?_
  refine JC.rs ?_
  refine Seq.p rfl (Ev.ldBA ag.api_Event) ?_
  refine Seq.call rfl (fun w hw => msgToldEv) (F := _) (by exact List.Perm.refl _) ?_
  intro u N hN
  rw [EvToldPost, if_neg hE] at hN
  subst hN
  refine Seq.re (fun w h => h.part ⟨N, List.perm_append_comm⟩) ?_
  refine Seq.p rfl Ev.move ?_
  refine Seq.p rfl Ev.extract ?_
  refine Seq.p rfl Ev.extract ?_
  refine Seq.p rfl Ev.extract ?_
  refine Seq.p rfl Ev.assign ?_
  refine Seq.p rfl Ev.assign ?_
  refine Seq.p rfl Ev.assign ?_
  refine Seq.nil ?_
  refine JC.seq ?_
  refine JC.rs ?_
  refine Seq.p rfl Ev.move ?_
  refine Seq.p rfl Ev.ne ?_
  refine Seq.nil ?_
  first | refine JC.c (ht := fun c15 => ?_) (hf := fun c15 => ?_) | refine JC.cb (ht := fun c15 => ?_) (hf := fun c15 => ?_)
  · -- then_t15
    refine JC.rs ?_
    refine Seq.p rfl Ev.move ?_
    refine Seq.p rfl Ev.assign ?_
    refine Seq.p rfl Ev.assign ?_
    refine Seq.nil ?_
    refine JC.ret ?_
    -- return 0
    show retQ _ _ _ _ _ _ _ _
    refine ret2 (H' := [bytesC (.slice none 0 0) []]) (hp := (by repeat (first | exact Part.nil _ | refine Part.at (by repeat (first | exact At.z | apply At.s)) ?_))) (hpost := ?_)
    exact ⟨none, 0, rfl, rfl⟩
  · -- else_t15
    exact absurd hE c15
set_option maxHeartbeats 2000000 in
set_option maxRecDepth 100000 in
theorem msgEventLine1 {w : World} {e : Event} (hw0 : e.Wf) (hE : toldEvE e = 0) (hL : LaidT w) : Spec Go.Proofs.Tryz.prog 16 #[.agg e.enc.toArray] w [] (LinePost (evLineF e)) := by
  refine Spec.enter (fn := Go.Proofs.Tryz.f16) (n := 31) [.agg e.enc.toArray] Go.Proofs.Tryz.func16 (by kernel_rfl) rfl Go.Proofs.Tryz.ntmps16 Go.Proofs.Tryz.results16 rfl (Own.nil _) ?_
  refine JC.rs ?_
  refine Seq.box (cs := [_, _, _, _, _, _, _, _, _, _, _, _, _]) (k := ?_); intro b1
  refine Seq.p rfl Ev.assign ?_
  refine Seq.p rfl Ev.assign ?_
  refine Seq.nil ?_
  refine JC.rs ?_
  refine Seq.p rfl (Ev.ldBA ag.api_Event) ?_
  refine Seq.call rfl (fun w hw => msgToldEv) (F := _) (by exact List.Perm.refl _) ?_
  intro u N hN
  rw [EvToldPost, if_pos hE] at hN
  obtain ⟨fs, A, cc, b3, hF, rfl, rfl⟩ := hN
  have hll := evLineF_ok hw0 hE hF
  obtain ⟨hf2, hfi⟩ := evFieldsF_fine hw0 hF
  obtain ⟨h8, hk⟩ := evFieldsF_small hF
  obtain ⟨xs, hxs⟩ : ∃ x, x = fs.map tgOf := ⟨_, rfl⟩
  have hxl : xs.length = fs.length := by rw [hxs, List.length_map]
  have hkr : (decS e.kind.toNat).size ≤ 20 := (decS_facts (n := e.kind.toNat) (by omega)).2.1
  have hxf : ∀ t ∈ xs, t.tag.toNat < 10000 ∧ t.value.size ≤ 20 := fun t ht => by
    rw [hxs] at ht
    obtain ⟨f, hf, rfl⟩ := List.mem_map.1 ht
    exact ⟨(hfi f hf).2, tgOf_fine (hfi f hf).1⟩
  rw [← hxs] at hll
  have hyl : (xs.take 1 ++ kindTg e :: xs.drop 1).length = xs.length + 1 := by simp; omega
  have hyf : ∀ t ∈ xs.take 1 ++ kindTg e :: xs.drop 1, t.tag.toNat < 10000 ∧ t.value.size ≤ 20 := fun t ht => by
    rw [List.mem_append, List.mem_cons] at ht
    rcases ht with ht | rfl | ht
    · exact hxf t (List.mem_of_mem_take ht)
    · exact ⟨by show Int.toNat 150 < _; decide, hkr⟩
    · exact hxf t (List.mem_of_mem_drop ht)
  have hbd := body_short (kind := ⟨#[56]⟩) (by decide) (show (xs.take 1 ++ kindTg e :: xs.drop 1).length ≤ 64 by omega) hyf
  obtain ⟨ys, hys⟩ : ∃ ys, ys = xs.take 1 ++ kindTg e :: xs.drop 1 := ⟨_, rfl⟩
  have hins : ∀ {w : World} {A : Option Addr} {c bv : Nat}, Own w [tagsC (.slice A xs.length c) xs, .box bv 74 (kindTg e).enc] → Spec Go.Proofs.Tryz.prog 40 #[.slice A xs.length c, .int .i64 1, .slice (some ⟨bv, 0, none⟩) 1 1] w [tagsC (.slice A xs.length c) xs, .box bv 74 (kindTg e).enc] (fun u N => ∃ A' c', u = .slice A' (xs.length + 1) c' ∧ N = [tagsC (.slice A' (xs.length + 1) c') ys]) := fun ho => hys ▸ msgInsert (by omega) (by omega) ho
  rw [← hys] at hll hyl hyf hbd
  rw [hll]
  obtain ⟨ec, hec⟩ : ∃ x, x = encF ⟨#[56]⟩ ys := ⟨_, rfl⟩
  rw [← hec]
  have hdec : ∀ {w' : World} {H : List Chunk}, Upd w w' [] H → Spec Go.Proofs.Tryz.prog 41 #[.int .u64 e.kind] w' [] (fun u _ => u = .string (decS e.kind.toNat)) := fun hw => by
    have h := textDecimal (u := e.kind.toNat) (by omega) (hL.upd hw)
    rw [show ((e.kind.toNat : Nat) : Int) = e.kind by omega] at h
    exact h
  refine Seq.p rfl Ev.move ?_
  refine Seq.p rfl Ev.extract ?_
  refine Seq.p rfl Ev.extract ?_
  refine Seq.p rfl Ev.extract ?_
  refine Seq.p rfl Ev.assign ?_
  refine Seq.p rfl Ev.assign ?_
  refine Seq.p rfl Ev.assign ?_
  refine Seq.nil ?_
  refine JC.seq ?_
  refine JC.rs ?_
  refine Seq.p rfl Ev.move ?_
  refine Seq.p rfl Ev.ne ?_
  refine Seq.nil ?_
  first | refine JC.c (ht := fun c15 => ?_) (hf := fun c15 => ?_) | refine JC.cb (ht := fun c15 => ?_) (hf := fun c15 => ?_)
  · -- then_t15
    exact absurd rfl c15
  · -- else_t15
    refine JC.skip ?_
    refine JC.rs ?_
    refine Seq.p rfl Ev.move ?_
    refine Seq.call rfl (fun w' hw => by have h := msgTagged (w := w') (fs := fs) (RAt.up (RAt.own (enc := Fld.enc) (sz := 3) (hs := by omega)) hw) (fun f hf => (hfi f hf).1) (by omega) (hL.upd hw); rw [← hxs] at h; exact h) (F := _) (by exact List.Perm.refl _) ?_
    rintro _ _ ⟨A18, c18, rfl, rfl⟩
    simp only [List.cons_append, List.nil_append]
    refine Seq.p rfl Ev.assign ?_
    refine Seq.nil ?_
    refine JC.rs ?_
    refine Seq.p rfl Ev.move ?_
    refine Seq.p rfl (Ev.faB fd.api_Event_1) ?_
    refine Seq.p rfl (Ev.ldB sc.int) ?_
    refine Seq.p rfl (Ev.convU64 it.int it.uint64) ?_
    refine Seq.callP rfl (fun w hw => hdec hw) ?_
    refine Seq.p rfl (Ev.buildN (kindTg e).enc pl.api_Tag z.api_Tag) ?_
    refine Seq.buildSlN (kindTg e).enc (hsl := sl.sl_api_Tag) (hz := z.api_Tag) (k := ?_); intro b25
    refine Seq.call rfl (fun w' hw => hins ((hw.part ⟨_, List.Perm.swap _ _ _⟩).own)) (F := _) (by exact List.Perm.swap _ _ _) ?_
    rintro _ _ ⟨A26, c26, rfl, rfl⟩
    simp only [List.cons_append, List.nil_append]
    rw [← hyl]
    refine Seq.p rfl Ev.assign ?_
    refine Seq.nil ?_
    refine JC.rs ?_
    refine Seq.p rfl Ev.move ?_
    refine Seq.call rfl (fun w' hw => by have h := textEncode (w := w') (kind := ⟨#[56]⟩) (xs := ys) (RAt.up (RAt.own (enc := Tg.enc) (xs := ys) (hs := by omega)) hw) (by decide) (fun t ht => by have := (hyf t ht).2; omega) hbd (hL.upd hw); rw [← hec] at h; exact h) (F := _) (by exact List.Perm.refl _) ?_
    rintro _ _ ⟨A28, c28, rfl, rfl⟩
    simp only [List.cons_append, List.nil_append]
    refine Seq.p rfl Ev.extract ?_
    refine Seq.p rfl Ev.extract ?_
    refine Seq.p rfl Ev.assign ?_
    refine Seq.p rfl Ev.assign ?_
    refine Seq.nil ?_
    refine JC.ret ?_
    -- return 0
    show retQ _ _ _ _ _ _ _ _
    refine ret2 (H' := [bytesC (.slice A28 ec.2.length c28) ec.2]) (hp := (by repeat (first | exact Part.nil _ | refine Part.at (by repeat (first | exact At.z | apply At.s)) ?_))) (hpost := ?_)
    exact ⟨A28, c28, rfl, rfl⟩
theorem msgEventLine {w : World} {e : Event} (hw0 : e.Wf) (hL : LaidT w) : Spec Go.Proofs.Tryz.prog 16 #[.agg e.enc.toArray] w [] (LinePost (evLineF e)) := by
  by_cases hE : toldEvE e = 0
  · exact msgEventLine1 hw0 hE hL
  · exact msgEventLine0 hw0 hE
theorem lineF_len (i : Input) : (lineF i).2.length ≤ 2048 := by
  unfold lineF
  split
  · split
    · exact encF_len _ _
    · exact Nat.zero_le _
  · exact Nat.zero_le _
theorem evLineF_len (e : Event) : (evLineF e).2.length ≤ 2048 := by
  unfold evLineF
  split
  · exact encF_len _ _
  · exact Nat.zero_le _
end Go.Rx
/- The document's examples: lives. -/
namespace Go.Rx
open Go Go.RowKit Go.Lib Go.Proofs.YthpejgmkiomfhaaGreatDoor
set_option linter.unusedVariables false
set_option linter.unusedSimpArgs false
def liveI1 : Input := ⟨1, 1, 7, 0, 3, 1, 1, 100, 5, 0, 0⟩
def liveI2 : Input := ⟨3, 0, 0, 0, 0, 0, 0, 0, 0, 0, 0⟩
def liveI3 : Input := ⟨1, 2, 0, 7, 0, 0, 0, 0, 0, 0, 0⟩
theorem live_p1 : packF liveI1 = (⟨1, [7, 0, 1103806595075, 100, 5, 0, 0]⟩, 0) := by decide +kernel
theorem live_p2 : packF liveI2 = (⟨0, [0, 0, 0, 0, 0, 0, 0]⟩, 41) := by decide +kernel
theorem live_wf3 : liveI3.Wf := by
  refine ⟨?_, ?_, ?_, ?_, ?_, ?_, ?_, ?_, ?_, ?_⟩ <;> decide
theorem live_l3 : ∃ l, lineF liveI3 = (0, l) ∧ l.length ≤ 2048 ∧ readF l = ⟨⟨#[70]⟩, [⟨41, ⟨#[55]⟩⟩], (l.length : Int), 0, l.length⟩ ∧ isBytes l := by
  have hF : fieldsF liveI3 = some (2, ⟨#[70]⟩, [wholeF 41 7]) := rfl
  have h0 : toldE liveI3 = 0 := by decide +kernel
  have h1 := lineF_ok h0 hF
  have hd : (decS 7) = ⟨#[55]⟩ := by decide +kernel
  have ht : [wholeF 41 7].map tgOf = [⟨41, ⟨#[55]⟩⟩] := by
    show [(⟨41, decS 7⟩ : Tg)] = _
    rw [hd]
  rw [ht] at h1
  have hk : ¬ kindB ⟨#[70]⟩ = false := by decide +kernel
  have he : ¬ encE [] [⟨41, ⟨#[55]⟩⟩] ≠ 0 := by decide +kernel
  have h3 := line_len ⟨#[70]⟩ [⟨41, ⟨#[55]⟩⟩]
  have h4 : (bodyL ⟨#[70]⟩ [⟨41, ⟨#[55]⟩⟩]).length ≤ 100 := by
    unfold bodyL
    rw [List.length_append, field_len, List.flatMap_cons, List.flatMap_nil, List.append_nil, field_len]
    have := decL_four (n := 35) (by decide)
    have := decL_four (n := 41) (by decide)
    show (decL 35).length + 2 + 1 + ((decL 41).length + 2 + 1) ≤ 100
    omega
  have h5 := decL_four (n := (bodyL ⟨#[70]⟩ [⟨41, ⟨#[55]⟩⟩]).length) (by omega)
  have h6 := encF_line hk (by decide) he (show ¬ 2048 < (lineL ⟨#[70]⟩ [⟨41, ⟨#[55]⟩⟩]).length by omega)
  rw [h6] at h1
  refine ⟨_, h1, by omega, ?_, line_bytes _ _⟩
  have := read_enc h6 []
  rwa [List.append_nil] at this
set_option maxHeartbeats 2000000 in
set_option maxRecDepth 100000 in
theorem lawLives {w : World} (hL : Laid w) : Spec Go.Proofs.Tryz.prog 12 #[] w [] (fun u _ => u = .bool true) := by
  obtain ⟨l, hl, hll, hrd, hB⟩ := live_l3
  refine Spec.enter (fn := Go.Proofs.Tryz.f12) (n := 76) [] Go.Proofs.Tryz.func12 (by kernel_rfl) rfl Go.Proofs.Tryz.ntmps12 Go.Proofs.Tryz.results12 rfl (Own.nil _) ?_
  refine JC.rs ?_
  refine Seq.p rfl Ev.assign ?_
  refine Seq.nil ?_
  refine JC.rs ?_
  refine Seq.p rfl (Ev.buildN [.int .i64 1, .int .u64 7, .int .u64 0, .int .u32 3, .int .i64 1, .int .i64 1, .int .i64 100, .int .u64 5, .int .u64 0] pl.api_Command z.api_Command) ?_
  refine Seq.alloc (cs := [_, _, _, _, _, _, _, _, _]) (hz := z.api_Command) (k := ?_); intro b1
  refine Seq.storeN [_, _, _, _, _, _, _, _, _] sz.api_Command (k := ?_)
  refine Seq.nil ?_
  refine JC.rs ?_
  refine Seq.p rfl (Ev.ldBA ag.api_Command) ?_
  refine Seq.p rfl (Ev.buildN liveI1.enc pl.api_Input z.api_Input) ?_
  refine Seq.callP rfl (v := .tuple #[.agg [.int .u8 1, .int .u64 7, .int .u64 0, .int .u64 1103806595075, .int .u64 100, .int .u64 5, .int .u64 0, .int .u64 0].toArray, .int .i64 0]) (fun w' hw => by have h := msgPack (w := w') (i := liveI1); rw [live_p1] at h; exact h) ?_
  refine Seq.p rfl Ev.move ?_
  refine Seq.p rfl Ev.extract ?_
  refine Seq.p rfl Ev.extract ?_
  refine Seq.alloc (cs := [_, _, _, _, _, _, _, _]) (hz := z.api_Frame) (k := ?_); intro b2
  refine Seq.storeN [_, _, _, _, _, _, _, _] sz.api_Frame (k := ?_)
  refine Seq.p rfl Ev.assign ?_
  refine Seq.nil ?_
  refine JC.rs ?_
  refine Seq.p rfl (Ev.buildN liveI2.enc pl.api_Input z.api_Input) ?_
  refine Seq.callP rfl (v := .tuple #[.agg [.int .u8 0, .int .u64 0, .int .u64 0, .int .u64 0, .int .u64 0, .int .u64 0, .int .u64 0, .int .u64 0].toArray, .int .i64 41]) (fun w' hw => by have h := msgPack (w := w') (i := liveI2); rw [live_p2] at h; exact h) ?_
  refine Seq.p rfl Ev.move ?_
  refine Seq.p rfl Ev.extract ?_
  refine Seq.p rfl Ev.extract ?_
  refine Seq.alloc (cs := [_, _, _, _, _, _, _, _]) (hz := z.api_Frame) (k := ?_); intro b4
  refine Seq.storeN [_, _, _, _, _, _, _, _] sz.api_Frame (k := ?_)
  refine Seq.p rfl Ev.assign ?_
  refine Seq.nil ?_
  refine JC.rs ?_
  refine Seq.p rfl (Ev.buildN [.int .i64 2, .int .u64 0, .int .u64 7, .int .u32 0, .int .i64 0, .int .i64 0, .int .i64 0, .int .u64 0, .int .u64 0] pl.api_Command z.api_Command) ?_
  refine Seq.p rfl (Ev.buildN liveI3.enc pl.api_Input z.api_Input) ?_
  refine Seq.call rfl (fun w' hw => by have h := msgLine (w := w') live_wf3 (hL.t.upd hw); rw [hl] at h; exact h) (F := _) (by exact List.Perm.refl _) ?_
  rintro _ _ ⟨A27, c27, rfl, rfl⟩
  simp only [List.cons_append, List.nil_append]
  refine Seq.p rfl Ev.move ?_
  refine Seq.p rfl Ev.extract ?_
  refine Seq.p rfl Ev.extract ?_
  refine Seq.p rfl Ev.assign ?_
  refine Seq.p rfl Ev.assign ?_
  refine Seq.nil ?_
  refine JC.rs ?_
  refine Seq.p rfl Ev.move ?_
  refine Seq.call rfl (fun w' hw => by have h := textDecode (w := w') (l := l) (RAt.up (RAt.own (enc := byteEnc) (xs := l)) hw) hB (by omega) (hL.upd hw); rw [hrd] at h; exact h) (F := _) (by exact List.Perm.refl _) ?_
  rintro _ _ ⟨A32, c32, rfl, rfl⟩
  simp only [List.cons_append, List.nil_append]
  refine Seq.p rfl Ev.move ?_
  refine Seq.p rfl Ev.extract ?_
  refine Seq.p rfl Ev.extract ?_
  refine Seq.p rfl Ev.extract ?_
  refine Seq.p rfl Ev.extract ?_
  refine Seq.p rfl Ev.assign ?_
  refine Seq.p rfl Ev.assign ?_
  refine Seq.p rfl Ev.assign ?_
  refine Seq.p rfl Ev.assign ?_
  refine Seq.nil ?_
  refine JC.seq ?_
  refine JC.rs ?_
  refine Seq.p rfl Ev.move ?_
  refine Seq.p rfl Ev.ne ?_
  refine Seq.p rfl Ev.move ?_
  refine Seq.orG (D := [39, 40, 41, 42]) (d := 39) (t := 42) (k := 3) (hn := fun h39 => ?_) (hx := ?_)
  · repeat (first | refine Seq.gn rfl rfl rfl rfl ?_ | refine Seq.gu rfl rfl rfl ?_)
    refine Seq.p rfl Ev.pickT ?_
    exact Seq.nil ⟨rfl, (by repeat (first | with_reducible exact Off.refl | refine Off.upd ?_ rfl | exact Off.mix | refine Off.mix2 ?_ rfl)), Look.here⟩
  apply Exists.intro
  refine ⟨fun h39 => ?_, fun u42 => ?_⟩
  · try simp only [decide_eq_true_eq, decide_eq_false_iff_not, Bool.and_eq_true, Bool.or_eq_true, Bool.not_eq_true', Bool.not_eq_false', Bool.or_eq_false_iff, Bool.and_eq_false_imp] at h39
    refine Seq.gy rfl rfl rfl ?_
    refine Seq.p rfl Ev.move ?_
    refine Seq.gy rfl rfl rfl ?_
    refine Seq.p rfl Ev.neStr ?_
    refine Seq.p rfl Ev.pickF ?_
    exact Seq.nil ⟨rfl, (by repeat (first | with_reducible exact Off.refl | refine Off.upd ?_ rfl | exact Off.mix | refine Off.mix2 ?_ rfl)), Look.here⟩
  refine Seq.p rfl Ev.move ?_
  refine Seq.orG (D := [43, 44, 45, 46, 47]) (d := 43) (t := 47) (k := 4) (hn := fun h43 => ?_) (hx := ?_)
  · repeat (first | refine Seq.gn rfl rfl rfl rfl ?_ | refine Seq.gu rfl rfl rfl ?_)
    refine Seq.p rfl Ev.pickT ?_
    exact Seq.nil ⟨rfl, (by repeat (first | with_reducible exact Off.refl | refine Off.upd ?_ rfl | exact Off.mix | refine Off.mix2 ?_ rfl)), Look.here⟩
  apply Exists.intro
  refine ⟨fun h43 => ?_, fun u47 => ?_⟩
  · try simp only [decide_eq_true_eq, decide_eq_false_iff_not, Bool.and_eq_true, Bool.or_eq_true, Bool.not_eq_true', Bool.not_eq_false', Bool.or_eq_false_iff, Bool.and_eq_false_imp] at h43
    refine Seq.gy rfl rfl rfl ?_
    refine Seq.p rfl Ev.move ?_
    refine Seq.gy rfl rfl rfl ?_
    refine Seq.p rfl (Ev.lenSl sl.sl_api_Tag (hr := RAt.own (enc := Tg.enc) (xs := [⟨41, ⟨#[55]⟩⟩]))) ?_
    refine Seq.gy rfl rfl rfl ?_
    refine Seq.p rfl Ev.ne ?_
    refine Seq.p rfl Ev.pickF ?_
    exact Seq.nil ⟨rfl, (by repeat (first | with_reducible exact Off.refl | refine Off.upd ?_ rfl | exact Off.mix | refine Off.mix2 ?_ rfl)), Look.here⟩
  refine Seq.p rfl Ev.move ?_
  refine Seq.orG (D := [48, 49, 50, 51, 52, 53, 54]) (d := 48) (t := 54) (k := 6) (hn := fun h48 => ?_) (hx := ?_)
  · repeat (first | refine Seq.gn rfl rfl rfl rfl ?_ | refine Seq.gu rfl rfl rfl ?_)
    refine Seq.p rfl Ev.pickT ?_
    exact Seq.nil ⟨rfl, (by repeat (first | with_reducible exact Off.refl | refine Off.upd ?_ rfl | exact Off.mix | refine Off.mix2 ?_ rfl)), Look.here⟩
  apply Exists.intro
  refine ⟨fun h48 => ?_, fun u54 => ?_⟩
  · try simp only [decide_eq_true_eq, decide_eq_false_iff_not, Bool.and_eq_true, Bool.or_eq_true, Bool.not_eq_true', Bool.not_eq_false', Bool.or_eq_false_iff, Bool.and_eq_false_imp] at h48
    refine Seq.gy rfl rfl rfl ?_
    refine Seq.p rfl Ev.move ?_
    refine Seq.gy rfl rfl rfl ?_
    refine Seq.p rfl (Ev.iaN sl.sl_api_Tag (i := 0) (hr := RAt.own (enc := Tg.enc) (xs := [⟨41, ⟨#[55]⟩⟩])) (hi := by show 0 < 1; decide)) ?_
    refine Seq.gy rfl rfl rfl ?_
    refine Seq.p rfl (Ev.ldEA ag.api_Tag (i := 0) (hr := RAt.own (enc := Tg.enc) (xs := [⟨41, ⟨#[55]⟩⟩])) (hi := by show 0 < 1; decide)) ?_
    refine Seq.gy rfl rfl rfl ?_
    refine Seq.p rfl (Ev.buildN [_, _] pl.api_Tag z.api_Tag) ?_
    refine Seq.gy rfl rfl rfl ?_
    refine Seq.p rfl (Ev.neAg so.api_Tag ag.api_Tag gd.api_Tag) ?_
    refine Seq.p rfl Ev.pickF ?_
    exact Seq.nil ⟨rfl, (by repeat (first | with_reducible exact Off.refl | refine Off.upd ?_ rfl | exact Off.mix | refine Off.mix2 ?_ rfl)), Look.here⟩
  refine Seq.nil ?_
  first | refine JC.c (ht := fun c54 => ?_) (hf := fun c54 => ?_) | refine JC.cb (ht := fun c54 => ?_) (hf := fun c54 => ?_)
  · -- then_t54
    exfalso
    simp at c54
    simp [Tg.enc, eqL, eqV] at c54
  · -- else_t54
    refine JC.skip ?_
    refine JC.rs ?_
    refine Seq.p rfl Ev.move ?_
    refine Seq.p rfl Ev.eq ?_
    refine Seq.p rfl Ev.move ?_
    refine Seq.andG (D := [57, 58, 59, 60, 61]) (d := 57) (t := 61) (k := 4) (hn := fun h57 => ?_) (hx := ?_)
    · repeat (first | refine Seq.gn rfl rfl rfl rfl ?_ | refine Seq.gu rfl rfl rfl ?_)
      refine Seq.p rfl Ev.pickF ?_
      exact Seq.nil ⟨rfl, (by repeat (first | with_reducible exact Off.refl | refine Off.upd ?_ rfl | exact Off.mix | refine Off.mix2 ?_ rfl)), Look.here⟩
    apply Exists.intro
    refine ⟨fun h57 => ?_, fun u61 => ?_⟩
    · try simp only [decide_eq_true_eq, decide_eq_false_iff_not, Bool.and_eq_true, Bool.or_eq_true, Bool.not_eq_true', Bool.not_eq_false', Bool.or_eq_false_iff, Bool.and_eq_false_imp] at h57
      refine Seq.gy rfl rfl rfl ?_
      refine Seq.p rfl (Ev.faB fd.api_Frame_0) ?_
      refine Seq.gy rfl rfl rfl ?_
      refine Seq.p rfl (Ev.ldB sc.uint8) ?_
      refine Seq.gy rfl rfl rfl ?_
      refine Seq.p rfl Ev.eq ?_
      refine Seq.p rfl Ev.pickT ?_
      exact Seq.nil ⟨rfl, (by repeat (first | with_reducible exact Off.refl | refine Off.upd ?_ rfl | exact Off.mix | refine Off.mix2 ?_ rfl)), Look.here⟩
    refine Seq.p rfl Ev.move ?_
    refine Seq.andG (D := [62, 63, 64, 65, 66, 67]) (d := 62) (t := 67) (k := 5) (hn := fun h62 => ?_) (hx := ?_)
    · repeat (first | refine Seq.gn rfl rfl rfl rfl ?_ | refine Seq.gu rfl rfl rfl ?_)
      refine Seq.p rfl Ev.pickF ?_
      exact Seq.nil ⟨rfl, (by repeat (first | with_reducible exact Off.refl | refine Off.upd ?_ rfl | exact Off.mix | refine Off.mix2 ?_ rfl)), Look.here⟩
    apply Exists.intro
    refine ⟨fun h62 => ?_, fun u67 => ?_⟩
    · try simp only [decide_eq_true_eq, decide_eq_false_iff_not, Bool.and_eq_true, Bool.or_eq_true, Bool.not_eq_true', Bool.not_eq_false', Bool.or_eq_false_iff, Bool.and_eq_false_imp] at h62
      refine Seq.gy rfl rfl rfl ?_
      refine Seq.p rfl (Ev.faB fd.api_Frame_1) ?_
      refine Seq.gy rfl rfl rfl ?_
      refine Seq.p rfl (Ev.ldBPN [_, _, _, _, _, _, _] ag.a7_uint64) ?_
      refine Seq.gy rfl rfl rfl ?_
      refine Seq.p rfl (Ev.buildArrN [_, _, _, _, _, _, _] ar.a7_uint64 z.a7_uint64) ?_
      refine Seq.gy rfl rfl rfl ?_
      refine Seq.p rfl (Ev.eqAg so.a7_uint64 ag.a7_uint64 gd.a7_uint64) ?_
      refine Seq.p rfl Ev.pickT ?_
      exact Seq.nil ⟨rfl, (by repeat (first | with_reducible exact Off.refl | refine Off.upd ?_ rfl | exact Off.mix | refine Off.mix2 ?_ rfl)), Look.here⟩
    refine Seq.p rfl Ev.move ?_
    refine Seq.andG (D := [68, 69, 70, 71]) (d := 68) (t := 71) (k := 3) (hn := fun h68 => ?_) (hx := ?_)
    · repeat (first | refine Seq.gn rfl rfl rfl rfl ?_ | refine Seq.gu rfl rfl rfl ?_)
      refine Seq.p rfl Ev.pickF ?_
      exact Seq.nil ⟨rfl, (by repeat (first | with_reducible exact Off.refl | refine Off.upd ?_ rfl | exact Off.mix | refine Off.mix2 ?_ rfl)), Look.here⟩
    apply Exists.intro
    refine ⟨fun h68 => ?_, fun u71 => ?_⟩
    · try simp only [decide_eq_true_eq, decide_eq_false_iff_not, Bool.and_eq_true, Bool.or_eq_true, Bool.not_eq_true', Bool.not_eq_false', Bool.or_eq_false_iff, Bool.and_eq_false_imp] at h68
      refine Seq.gy rfl rfl rfl ?_
      refine Seq.p rfl Ev.move ?_
      refine Seq.gy rfl rfl rfl ?_
      refine Seq.p rfl Ev.eq ?_
      refine Seq.p rfl Ev.pickT ?_
      exact Seq.nil ⟨rfl, (by repeat (first | with_reducible exact Off.refl | refine Off.upd ?_ rfl | exact Off.mix | refine Off.mix2 ?_ rfl)), Look.here⟩
    refine Seq.p rfl Ev.move ?_
    refine Seq.andG (D := [72, 73, 74, 75]) (d := 72) (t := 75) (k := 3) (hn := fun h72 => ?_) (hx := ?_)
    · repeat (first | refine Seq.gn rfl rfl rfl rfl ?_ | refine Seq.gu rfl rfl rfl ?_)
      refine Seq.p rfl Ev.pickF ?_
      exact Seq.nil ⟨rfl, (by repeat (first | with_reducible exact Off.refl | refine Off.upd ?_ rfl | exact Off.mix | refine Off.mix2 ?_ rfl)), Look.here⟩
    apply Exists.intro
    refine ⟨fun h72 => ?_, fun u75 => ?_⟩
    · try simp only [decide_eq_true_eq, decide_eq_false_iff_not, Bool.and_eq_true, Bool.or_eq_true, Bool.not_eq_true', Bool.not_eq_false', Bool.or_eq_false_iff, Bool.and_eq_false_imp] at h72
      refine Seq.gy rfl rfl rfl ?_
      refine Seq.p rfl Ev.move ?_
      refine Seq.gy rfl rfl rfl ?_
      refine Seq.p rfl Ev.eq ?_
      refine Seq.p rfl Ev.pickT ?_
      exact Seq.nil ⟨rfl, (by repeat (first | with_reducible exact Off.refl | refine Off.upd ?_ rfl | exact Off.mix | refine Off.mix2 ?_ rfl)), Look.here⟩
    refine Seq.p rfl Ev.assign ?_
    refine Seq.nil ?_
    refine JC.ret ?_
    -- return 0
    show retQ _ _ _ _ _ _ _ _
    refine ret1 (hp := Part.nil _) (hpost := ?_)
    rfl
end Go.Rx
/- Lines read: the program's valued and ReadLine. -/
namespace Go.Rx
open Go Go.RowKit Go.Lib Go.Proofs.YthpejgmkiomfhaaGreatDoor
set_option linter.unusedVariables false
set_option linter.unusedSimpArgs false
def numT (xs : List Tg) (t : Int) : Option Nat := (valueF xs t).bind numOf
def valStep (xs : List Tg) (m : List (Int × Int)) (t : Tg) : List (Int × Int) := match numT xs t.tag with | some n => iput m t.tag (n : Int) | none => m
def valG (xs ys : List Tg) : List (Int × Int) := ys.foldl (valStep xs) []
def valuedF (xs : List Tg) : List (Int × Int) := valG xs xs
theorem valG_snoc (xs ys : List Tg) (i : Nat) (h : i < ys.length) : valG xs (ys.take (i + 1)) = valStep xs (valG xs (ys.take i)) ys[i]! := by
  unfold valG
  rw [List.take_succ_eq_append_getElem h, List.foldl_append, getElem!_pos ys i h]
  rfl
theorem numV_parts (xs : List Tg) (t : Int) : ∃ q e : Int, numV (valueF xs t) = .tuple #[.int .u64 q, .int .i64 e] ∧ (e = 0 → ∃ n : Nat, numT xs t = some n ∧ q = n ∧ n ≤ 18446744073709551615) ∧ (e ≠ 0 → numT xs t = none) ∧ (q = match numT xs t with | some n => (n : Int) | none => 0) := by
  unfold numT
  cases hv : valueF xs t with
  | none => exact ⟨0, 30, rfl, (fun h => by cases h), fun _ => rfl, rfl⟩
  | some s =>
    cases hn : numOf s with
    | none =>
      refine ⟨0, 31, ?_, (fun h => by cases h), fun _ => hn, ?_⟩
      · simp only [numV, hn]
      · show (0 : Int) = match numOf s with | some n => (n : Int) | none => 0
        rw [hn]
    | some n =>
      refine ⟨n, 0, ?_, fun _ => ⟨n, hn, rfl, (numOf_some hn).2⟩, fun h => absurd rfl h, ?_⟩
      · simp only [numV, hn]
      · show (n : Int) = match numOf s with | some n => (n : Int) | none => 0
        rw [hn]
set_option maxHeartbeats 1000000 in
set_option maxRecDepth 100000 in
theorem msgValued {w : World} {v : Value} {xs : List Tg} (hs : RSl Tg.enc 2 w [] v xs) (hsz : ∀ t ∈ xs, t.value.size ≤ 281474976710656) (hL : Laid w) : Spec Go.Proofs.Tryz.prog 22 #[v] w [] (MapPost (valuedF xs)) := by
  have hsm := hs.small
  refine Spec.enter (fn := Go.Proofs.Tryz.f22) (n := 30) [v] Go.Proofs.Tryz.func22 (by kernel_rfl) rfl Go.Proofs.Tryz.ntmps22 Go.Proofs.Tryz.results22 rfl (Own.nil _) ?_
  refine JC.rs ?_
  refine Seq.p rfl Ev.assign ?_
  refine Seq.nil ?_
  refine JC.rs ?_
  refine Seq.mkMapI .i64 .u64 (k := ?_); intro b8
  refine Seq.p rfl Ev.assign ?_
  refine Seq.nil ?_
  refine JC.seq ?_
  refine JC.rs ?_
  refine Seq.p rfl Ev.move ?_
  refine Seq.p rfl (Ev.lenSl sl.sl_api_Tag (hr := hs.r)) ?_
  refine Seq.p rfl Ev.move ?_
  refine Seq.nil ?_
  refine JC.blk ?_
  refine JC.loop (α := Nat) (I := fun i e1 H1 => Has [5, 6, 7, 11, 12, 13, 14, 15, 16, 17, 18, 19, 20, 21, 22, 23, 24, 25, 26, 27, 28] [(11, .int .i64 (i : Int))] _ e1 ∧ H1 = [.mi b8 .i64 .u64 (valG xs (xs.take i))] ∧ i ≤ xs.length) (μ := fun i => xs.length - i) 0 ⟨Has.mk Off.refl (allLook_cons (by repeat (first | exact Look.here | apply Look.there (hne := rfl) | exact Look.const | apply Look.mix rfl | exact Look.arg0 | apply Look.args | exact Look.func)) allLook_nil), rfl, by omega⟩ ?_
  rintro i _ _ ⟨⟨ui, rfl⟩, rfl, hi⟩; dsimp only [setL]
  refine JC.rs ?_
  refine Seq.p rfl Ev.lt ?_
  refine Seq.nil ?_
  refine JC.seq ?_
  first | refine JC.c (ht := fun c12 => ?_) (hf := fun c12 => ?_) | refine JC.cb (ht := fun c12 => ?_) (hf := fun c12 => ?_)
  · -- then_t12
    have hi2 : i < xs.length := by omega
    obtain ⟨q, e, hq, h0, hn0, _⟩ := numV_parts xs (xs[i]!).tag
    have hnum : ∀ {w' : World} {H : List Chunk}, Upd w w' [] H → Spec Go.Proofs.Tryz.prog 46 #[v, .int .i64 (xs[i]!).tag] w' [] (fun u _ => u = .tuple #[.int .u64 q, .int .i64 e]) := fun hw => by
      have h := textNumber (tag := (xs[i]!).tag) (hs.up hw) hsz (hL.upd hw)
      rw [hq] at h
      exact h
    refine JC.skip ?_
    refine JC.seq ?_
    refine JC.blk ?_
    refine JC.rs ?_
    refine Seq.p rfl (Ev.iaN sl.sl_api_Tag (hr := hs.r)) ?_
    refine Seq.p rfl (Ev.ldEA ag.api_Tag (hr := hs.r)) ?_
    refine Seq.alloc (cs := [_, _]) (hz := z.api_Tag) (k := ?_); intro b5
    refine Seq.storeN [_, _] sz.api_Tag (k := ?_)
    refine Seq.nil ?_
    refine JC.rs ?_
    refine Seq.p rfl Ev.move ?_
    refine Seq.p rfl (Ev.faB fd.api_Tag_0) ?_
    refine Seq.p rfl (Ev.ldB sc.int) ?_
    refine Seq.callP rfl (fun w hw => hnum hw) ?_
    refine Seq.p rfl Ev.move ?_
    refine Seq.p rfl Ev.extract ?_
    refine Seq.p rfl Ev.extract ?_
    refine Seq.p rfl Ev.assign ?_
    refine Seq.p rfl Ev.assign ?_
    refine Seq.nil ?_
    refine JC.rs ?_
    refine Seq.p rfl Ev.move ?_
    refine Seq.p rfl Ev.eq ?_
    refine Seq.nil ?_
    first | refine JC.c (ht := fun c23 => ?_) (hf := fun c23 => ?_) | refine JC.cb (ht := fun c23 => ?_) (hf := fun c23 => ?_)
    · -- then_t23
      obtain ⟨n, hn1, hn2, _⟩ := h0 c23
      refine JC.reg ?_
      refine Seq.p rfl Ev.move ?_
      refine Seq.p rfl (Ev.faB fd.api_Tag_0) ?_
      refine Seq.p rfl (Ev.ldB sc.int) ?_
      refine Seq.p rfl Ev.move ?_
      refine Seq.mapPutI mp.m_int_uint64 (kk' := ?_)
      refine Seq.nil ?_
      refine JC.reg ?_
      refine Seq.p rfl (by first | exact Ev.inc | exact Ev.add) ?_
      refine Seq.p rfl Ev.move ?_
      refine Seq.nil ?_
      refine ⟨i + 1, _, Part.skip (Part.refl _), ⟨Has.mk (by repeat (first | refine Off.upd ?_ rfl | exact Off.mix | refine Off.mix2 ?_ rfl | exact Off.refl)) (allLook_cons (by repeat (first | exact Look.here | apply Look.there (hne := rfl) | exact Look.const | apply Look.mix rfl | exact Look.arg0 | apply Look.args | exact Look.func)) allLook_nil), ?_, by omega⟩, by omega⟩
      rw [valG_snoc xs xs i hi2, valStep, hn1]
      first | done | (rw [hn2]; rfl)
    · -- else_t23
      have hn1 := hn0 c23
      refine JC.skip ?_
      refine JC.reg ?_
      refine Seq.p rfl (by first | exact Ev.inc | exact Ev.add) ?_
      refine Seq.p rfl Ev.move ?_
      refine Seq.nil ?_
      refine ⟨i + 1, _, Part.skip (Part.refl _), ⟨Has.mk (by repeat (first | refine Off.upd ?_ rfl | exact Off.mix | refine Off.mix2 ?_ rfl | exact Off.refl)) (allLook_cons (by repeat (first | exact Look.here | apply Look.there (hne := rfl) | exact Look.const | apply Look.mix rfl | exact Look.arg0 | apply Look.args | exact Look.func)) allLook_nil), ?_, by omega⟩, by omega⟩
      rw [valG_snoc xs xs i hi2, valStep, hn1]
      first | done | (rw [hn2]; rfl)
  · -- else_t12
    obtain rfl : i = xs.length := by omega
    refine JC.exit ?_ -- 0
    refine JC.rs ?_
    refine Seq.p rfl Ev.move ?_
    refine Seq.p rfl Ev.assign ?_
    refine Seq.nil ?_
    refine JC.ret ?_
    -- return 0
    show retQ _ _ _ _ _ _ _ _
    refine ret1 (hp := Part.refl _) (hpost := ?_)
    exact ⟨b8, rfl, by rw [List.take_length]; rfl⟩
/-- The numbers in a map are words. -/
theorem iget_iput_range {m : List (Int × Int)} {k v : Int} (hm : ∀ p ∈ m, 0 ≤ p.2 ∧ p.2 ≤ 18446744073709551615) (hv : 0 ≤ v ∧ v ≤ 18446744073709551615) : ∀ p ∈ iput m k v, 0 ≤ p.2 ∧ p.2 ≤ 18446744073709551615 := by
  induction m with
  | nil =>
    intro p hp
    simp only [iput, List.mem_cons, List.not_mem_nil, or_false] at hp
    subst hp
    exact hv
  | cons a m ih =>
    obtain ⟨a1, a2⟩ := a
    intro p hp
    unfold iput at hp
    split at hp
    · rcases List.mem_cons.1 hp with rfl | hp
      · exact hv
      · exact hm p (List.mem_cons_of_mem _ hp)
    · rcases List.mem_cons.1 hp with rfl | hp
      · exact hm _ (List.mem_cons_self ..)
      · exact ih (fun q hq => hm q (List.mem_cons_of_mem _ hq)) p hp
theorem iget_range {m : List (Int × Int)} (hm : ∀ p ∈ m, 0 ≤ p.2 ∧ p.2 ≤ 18446744073709551615) (k : Int) : 0 ≤ iget m k ∧ iget m k ≤ 18446744073709551615 := by
  induction m with
  | nil => exact ⟨by show (0 : Int) ≤ 0; decide, by show (0 : Int) ≤ _; decide⟩
  | cons a m ih =>
    obtain ⟨a1, a2⟩ := a
    unfold iget
    split
    · exact hm _ (List.mem_cons_self ..)
    · exact ih (fun q hq => hm q (List.mem_cons_of_mem _ hq))
theorem valG_range (xs : List Tg) : ∀ (ys : List Tg) (m : List (Int × Int)), (∀ p ∈ m, 0 ≤ p.2 ∧ p.2 ≤ 18446744073709551615) → ∀ p ∈ ys.foldl (valStep xs) m, 0 ≤ p.2 ∧ p.2 ≤ 18446744073709551615
  | [], m, hm => hm
  | y :: ys, m, hm => by
    rw [List.foldl_cons]
    refine valG_range xs ys _ ?_
    unfold valStep
    cases hn : numT xs y.tag with
    | none => exact hm
    | some n =>
      refine iget_iput_range hm ?_
      unfold numT at hn
      cases hv : valueF xs y.tag with
      | none => rw [hv] at hn; cases hn
      | some s =>
        rw [hv] at hn
        have := (numOf_some (s := s) hn).2
        omega
theorem valued_range (xs : List Tg) (k : Int) : 0 ≤ iget (valuedF xs) k ∧ iget (valuedF xs) k ≤ 18446744073709551615 :=
  iget_range (valG_range xs xs [] (fun p hp => by cases hp)) k
theorem inputF_wf (k : Int) (xs : List Tg) (hk : 0 ≤ k ∧ k ≤ 255) : (inputF k (valuedF xs)).Wf := by
  unfold inputF
  have z : (0 : Int) ≤ 0 ∧ (0 : Int) ≤ 18446744073709551615 := by decide
  have z4 : (0 : Int) ≤ 0 ∧ (0 : Int) ≤ 4294967295 := by decide
  have zi : -9223372036854775808 ≤ (0 : Int) ∧ (0 : Int) ≤ 9223372036854775807 := by decide
  split
  · exact ⟨zi, z, z, z4, zi, zi, zi, z, z, s64_range _⟩
  · exact ⟨s64_range _, valued_range _ _, valued_range _ _, by show 0 ≤ _ % 4294967296 ∧ _ % 4294967296 ≤ (4294967295 : Int); omega, s64_range _, s64_range _, s64_range _, valued_range _ _, valued_range _ _, zi⟩
/-- The kind of frame of a kind of line; 0: none. -/
def idxF (s : ByteArray) : Int := if s = ⟨#[68]⟩ then 1 else if s = ⟨#[70]⟩ then 2 else if s = ⟨#[71]⟩ then 3 else if s = ⟨#[85, 69]⟩ then 4 else 0
theorem idxF_range (s : ByteArray) : 0 ≤ idxF s ∧ idxF s ≤ 4 := by
  unfold idxF
  (repeat' split) <;> decide
theorem idx_four (s : ByteArray) : idxOfS [⟨#[68]⟩, ⟨#[70]⟩, ⟨#[71]⟩, ⟨#[85, 69]⟩] s = idxF s - 1 := by
  unfold idxF idxOfS
  simp only [idxFromS]
  by_cases h1 : s = ⟨#[68]⟩
  · simp [h1]
  · by_cases h2 : s = ⟨#[70]⟩
    · simp [h2]
    · by_cases h3 : s = ⟨#[71]⟩
      · simp [h3]
      · by_cases h4 : s = ⟨#[85, 69]⟩
        · simp [h4]
        · simp [h1, h2, h3, h4, Ne.symm h1, Ne.symm h2, Ne.symm h3, Ne.symm h4]
theorem spec_same {f : FuncId} {args : Array Value} {w : World} {v : Value} (he : Enters Go.Proofs.Tryz.prog f) (h : Calls Go.Proofs.Tryz.prog f args w fun e w' => e = .returned v ∧ w' = w) : Spec Go.Proofs.Tryz.prog f args w [] (fun u _ => u = v) := by
  refine ⟨he, h.mono ?_⟩
  rintro e w' ⟨rfl, rfl⟩
  exact ⟨_, [], rfl, Upd.refl (Own.nil _), rfl⟩
theorem textIndex4 {w : World} {b : Nat} {s : ByteArray} {w0 : World} {Cs H : List Chunk} {i : Nat} (hH : At H i (.box b 9 [.string ⟨#[68]⟩, .string ⟨#[70]⟩, .string ⟨#[71]⟩, .string ⟨#[85, 69]⟩])) (hw : Upd w0 w Cs H) :
    Spec Go.Proofs.Tryz.prog 20 #[.slice (some ⟨b, 0, none⟩) 4 4, .string s] w [] (fun u _ => u = .int .i64 (idxF s - 1)) := by
  refine spec_same ⟨Go.Proofs.Tryz.f20, Go.Proofs.Tryz.func20, by kernel_rfl, rfl⟩ ?_
  have hc := Go.Proofs.Tryz.slices_Index_string b 0 4 4 [⟨#[68]⟩, ⟨#[70]⟩, ⟨#[71]⟩, ⟨#[85, 69]⟩] s w (by decide) (by decide) (fun j hj => by
    have hj4 : j < 4 := hj
    have h1 : ∀ v, [Value.string ⟨#[68]⟩, .string ⟨#[70]⟩, .string ⟨#[71]⟩, .string ⟨#[85, 69]⟩][j]? = some v → w.cell? ⟨b, 0 + j, none⟩ = some v := fun v hv => (box_cell hw hH (by rw [Nat.zero_add]; exact hv)).1
    have : j = 0 ∨ j = 1 ∨ j = 2 ∨ j = 3 := by omega
    rcases this with rfl | rfl | rfl | rfl <;> exact h1 _ rfl)
  rw [show ([⟨#[68]⟩, ⟨#[70]⟩, ⟨#[71]⟩, ⟨#[85, 69]⟩] : List ByteArray).take 4 = [⟨#[68]⟩, ⟨#[70]⟩, ⟨#[71]⟩, ⟨#[85, 69]⟩] from rfl, idx_four] at hc
  exact hc
theorem lineF_bytes (i : Input) : isBytes (lineF i).2 := by
  have he : ∀ kind xs, isBytes (encF kind xs).2 := fun kind xs => by
    unfold encF
    (repeat' split) <;> first | exact line_bytes _ _ | (intro x hx; cases hx)
  unfold lineF
  split
  · split
    · exact he _ _
    · intro x hx; cases hx
  · intro x hx; cases hx
/-- The place behind a line that was read. -/
theorem read_place {l : List Int} (hB : isBytes l) (h : (readF l).why = 0) : (readF l).place = ((readF l).size : Int) ∧ (readF l).size ≤ l.length := by
  obtain ⟨h1, _, h3⟩ := read_inv hB h
  have h4 := read_enc h1 (l.drop (readF l).size)
  rw [List.take_append_drop] at h4
  have h5 := congrArg ReadA.place h4
  simp only [List.length_take] at h5
  refine ⟨?_, h3⟩
  rw [h5]
  congr 1
  omega
def readLineF (l : List Int) : Input × Int × Int :=
  if (readF l).why ≠ 0 then (input0, (readF l).place, (readF l).why)
  else if idxF (readF l).kind = 0 then (input0, 0, 41)
  else if lineF (inputF (idxF (readF l).kind) (valuedF (readF l).tags)) = (0, l.take (readF l).size) then (inputF (idxF (readF l).kind) (valuedF (readF l).tags), ((readF l).size : Int), 0)
  else (input0, 0, 40)
def readLineV (p : Input × Int × Int) : Value := .tuple #[.agg p.1.enc.toArray, .int .i64 p.2.1, .int .i64 p.2.2]
set_option maxHeartbeats 2000000 in
set_option maxRecDepth 100000 in
theorem msgReadLine {w : World} {v : Value} {l : List Int} (hr : RSl byteEnc 1 w [] v l) (hB : isBytes l) (hl : l.length ≤ 140737488355328) (hL : Laid w) :
    Spec Go.Proofs.Tryz.prog 7 #[v] w [] (fun u _ => u = readLineV (readLineF l)) := by
  have hpl := read_place (l := l) hB
  have hts := readF_tags (l := l) (N := 140737488355328) hl
  obtain ⟨R, hR⟩ : ∃ R, R = readF l := ⟨_, rfl⟩
  have hP : readLineF l = if R.why ≠ 0 then (input0, R.place, R.why) else if idxF R.kind = 0 then (input0, 0, 41) else if lineF (inputF (idxF R.kind) (valuedF R.tags)) = (0, l.take R.size) then (inputF (idxF R.kind) (valuedF R.tags), (R.size : Int), 0) else (input0, 0, 40) := by
    rw [hR]
    rfl
  rw [← hR] at hpl hts
  have hix := idxF_range R.kind
  obtain ⟨ix, hix0⟩ : ∃ ix, ix = idxF R.kind := ⟨_, rfl⟩
  rw [← hix0] at hix hP
  have hwf := inputF_wf ix R.tags (by omega)
  obtain ⟨i, hi⟩ : ∃ i, i = inputF ix (valuedF R.tags) := ⟨_, rfl⟩
  rw [← hi] at hP hwf
  have hlb := lineF_bytes i
  have hll := lineF_len i
  obtain ⟨pq, hpl0⟩ : ∃ pq, pq = lineF i := ⟨_, rfl⟩
  rw [← hpl0] at hP hlb hll
  refine Spec.enter (fn := Go.Proofs.Tryz.f7) (n := 56) [v] Go.Proofs.Tryz.func7 (by kernel_rfl) rfl Go.Proofs.Tryz.ntmps7 Go.Proofs.Tryz.results7 rfl (Own.nil _) ?_
  refine JC.rs ?_
  refine Seq.alloc (cs := [_, _, _, _, _, _, _, _, _, _, _]) (hz := z.api_Input) (k := ?_); intro b2
  refine Seq.p rfl Ev.assign ?_
  refine Seq.p rfl Ev.assign ?_
  refine Seq.nil ?_
  refine JC.rs ?_
  refine Seq.p rfl Ev.move ?_
  refine Seq.call rfl (fun w' hw => by have h := textDecode (hr.up hw) hB (by omega) (hL.upd hw); rw [← hR] at h; exact h) (F := _) (by exact List.Perm.refl _) ?_
  rintro _ _ ⟨A15, c15, rfl, rfl⟩
  simp only [List.cons_append, List.nil_append]
  refine Seq.p rfl Ev.move ?_
  refine Seq.p rfl Ev.extract ?_
  refine Seq.p rfl Ev.extract ?_
  refine Seq.p rfl Ev.extract ?_
  refine Seq.p rfl Ev.extract ?_
  refine Seq.p rfl Ev.assign ?_
  refine Seq.p rfl Ev.assign ?_
  refine Seq.p rfl Ev.assign ?_
  refine Seq.p rfl Ev.assign ?_
  refine Seq.nil ?_
  refine JC.seq ?_
  refine JC.rs ?_
  refine Seq.p rfl Ev.move ?_
  refine Seq.p rfl Ev.ne ?_
  refine Seq.nil ?_
  first | refine JC.c (ht := fun c21 => ?_) (hf := fun c21 => ?_) | refine JC.cb (ht := fun c21 => ?_) (hf := fun c21 => ?_)
  · -- then_t21
    refine JC.rs ?_
    refine Seq.p rfl (Ev.buildN [_, _, _, _, _, _, _, _, _, _, _] pl.api_Input z.api_Input) ?_
    refine Seq.p rfl Ev.move ?_
    refine Seq.p rfl Ev.move ?_
    refine Seq.storeN [_, _, _, _, _, _, _, _, _, _, _] sz.api_Input (k := ?_)
    refine Seq.p rfl Ev.assign ?_
    refine Seq.p rfl Ev.assign ?_
    refine Seq.nil ?_
    refine JC.ret ?_
    -- return 0
    show retQ _ _ _ _ _ _ _ _
    refine retB3 ag.api_Input (hp := Part.nil _) (hpost := ?_)
    rw [hP, if_pos c21]
    rfl
  · -- else_t21
    obtain ⟨hpz, hsz⟩ := hpl (Classical.not_not.1 c21)
    refine JC.skip ?_
    refine JC.rs ?_
    refine Seq.buildSlN [.string ⟨#[68]⟩, .string ⟨#[70]⟩, .string ⟨#[71]⟩, .string ⟨#[85, 69]⟩] (hsl := sl.sl_string) (hz := z.string) (k := ?_); intro b25
    refine Seq.p rfl Ev.move ?_
    refine Seq.callP rfl (fun w' hw => textIndex4 At.z hw) ?_
    rw [← hix0]
    refine Seq.p rfl (Ev.as (v' := .int .i64 ix) (by congr 1; omega) (Ev.add (a := 1) (b := ix - 1))) ?_
    refine Seq.p rfl (Ev.convU8 it.int it.uint8) ?_
    refine Seq.p rfl Ev.assign ?_
    refine Seq.nil ?_
    refine JC.seq ?_
    refine JC.rs ?_
    refine Seq.p rfl Ev.move ?_
    refine Seq.p rfl Ev.eq ?_
    refine Seq.nil ?_
    first | refine JC.c (ht := fun c31 => ?_) (hf := fun c31 => ?_) | refine JC.cb (ht := fun c31 => ?_) (hf := fun c31 => ?_)
    · -- then_t31
      refine JC.rs ?_
      refine Seq.p rfl (Ev.buildN [_, _, _, _, _, _, _, _, _, _, _] pl.api_Input z.api_Input) ?_
      refine Seq.storeN [_, _, _, _, _, _, _, _, _, _, _] sz.api_Input (k := ?_)
      refine Seq.p rfl Ev.assign ?_
      refine Seq.p rfl Ev.assign ?_
      refine Seq.nil ?_
      refine JC.ret ?_
      -- return 1
      show retQ _ _ _ _ _ _ _ _
      refine retB3 ag.api_Input (hp := Part.nil _) (hpost := ?_)
      rw [hP, if_neg c21, if_pos c31]
      rfl
    · -- else_t31
      refine JC.skip ?_
      refine JC.rs ?_
      refine Seq.p rfl Ev.move ?_
      refine Seq.p rfl Ev.move ?_
      refine Seq.call rfl (fun w' hw => msgValued (RAt.up (RAt.own (enc := Tg.enc) (xs := R.tags) (hs := by omega)) hw) (fun t ht => by have := hts.1 t ht; omega) (hL.upd hw)) (F := _) (by exact List.Perm.refl _) ?_
      rintro _ _ ⟨bm, rfl, rfl⟩
      simp only [List.cons_append, List.nil_append]
      refine Seq.callP rfl (v := .agg i.enc.toArray) (fun w' hw => by have h := msgInputOf (k := ix) (RM.up RM.own hw); rw [← hi] at h; exact h) ?_
      refine Seq.alloc (cs := [_, _, _, _, _, _, _, _, _, _, _]) (hz := z.api_Input) (k := ?_); intro b10
      refine Seq.storeTo (cs' := i.enc) sz.api_Input (hH := At.z) (hfit := Nat.le_of_ble_eq_true rfl) (hcs := rfl) (k := ?_)
      refine Seq.nil ?_
      refine JC.seq ?_
      refine JC.rs ?_
      refine Seq.p rfl (Ev.ldBA (cs := i.enc) ag.api_Input) ?_
      refine Seq.call rfl (fun w' hw => by have h := msgLine (w := w') hwf (hL.t.upd hw); rw [← hpl0] at h; exact h) (F := _) (by exact List.Perm.refl _) ?_
      rintro _ _ ⟨A39, c39, rfl, rfl⟩
      simp only [List.cons_append, List.nil_append]
      rw [hpz]
      refine Seq.p rfl Ev.move ?_
      refine Seq.p rfl Ev.extract ?_
      refine Seq.p rfl Ev.extract ?_
      refine Seq.p rfl Ev.assign ?_
      refine Seq.p rfl Ev.assign ?_
      refine Seq.nil ?_
      refine JC.qs mixed (by kernel_rfl) ?_
      refine Qui.p rfl Ev.move ?_
      refine Qui.p rfl Ev.ne ?_
      refine Qui.p rfl Ev.move ?_
      refine Qui.orG (D := [44, 45, 46, 47, 48, 49, 50, 51, 52]) (d := 44) (t := 52) (k := 8) (hn := fun h44 => ?_) (hx := ?_)
      · repeat (first | refine Qui.gn rfl rfl rfl rfl ?_ | refine Qui.gu rfl rfl rfl ?_)
        refine Qui.p rfl Ev.pickT ?_
        exact Qui.nil ⟨(by repeat (first | with_reducible exact Off.refl | refine Off.upd ?_ rfl | exact Off.mix | refine Off.mix2 ?_ rfl)), Look.here⟩
      apply Exists.intro
      refine ⟨fun h44 => ?_, fun u52 => ?_⟩
      · try simp only [decide_eq_true_eq, decide_eq_false_iff_not, Bool.and_eq_true, Bool.or_eq_true, Bool.not_eq_true', Bool.not_eq_false', Bool.or_eq_false_iff, Bool.and_eq_false_imp] at h44
        refine Qui.gy rfl rfl rfl ?_
        refine Qui.p rfl Ev.move ?_
        refine Qui.gy rfl rfl rfl ?_
        refine Qui.p rfl (Ev.strOf (l := pq.2) sl.sl_uint8 it.uint8 st.string (hr := RAt.own (enc := byteEnc) (xs := pq.2))) ?_
        refine Qui.gy rfl rfl rfl ?_
        refine Qui.p rfl Ev.move ?_
        refine Qui.gy rfl rfl rfl ?_
        refine Qui.p rfl Ev.move ?_
        refine Qui.gy rfl rfl rfl ?_
        refine Qui.p rfl (Ev.cut sl.sl_uint8 (hr := hr.r) (l := 0) (h := R.size) (hlo := rfl) (hhi := ⟨_, (by repeat (first | exact Look.here | apply Look.there (hne := rfl) | exact Look.const | apply Look.mix rfl | exact Look.arg0 | apply Look.args | exact Look.func))⟩)) ?_
        refine Qui.gy rfl rfl rfl ?_
        refine Qui.p rfl (Ev.strOf (l := l.take R.size) sl.sl_uint8 it.uint8 st.string (hr := (hr.sub (lo := 0) (hi := R.size) (by omega) hsz).r)) ?_
        refine Qui.gy rfl rfl rfl ?_
        refine Qui.p rfl Ev.neStr ?_
        refine Qui.p rfl Ev.pickF ?_
        exact Qui.nil ⟨(by repeat (first | with_reducible exact Off.refl | refine Off.upd ?_ rfl | exact Off.mix | refine Off.mix2 ?_ rfl)), Look.here⟩
      refine Qui.nil ?_
      first | refine JC.c (ht := fun c52 => ?_) (hf := fun c52 => ?_) | refine JC.cb (ht := fun c52 => ?_) (hf := fun c52 => ?_)
      · -- then_t52
        refine JC.rs ?_
        refine Seq.p rfl (Ev.buildN [_, _, _, _, _, _, _, _, _, _, _] pl.api_Input z.api_Input) ?_
        refine Seq.storeN [_, _, _, _, _, _, _, _, _, _, _] sz.api_Input (k := ?_)
        refine Seq.p rfl Ev.assign ?_
        refine Seq.p rfl Ev.assign ?_
        refine Seq.nil ?_
        refine JC.ret ?_
        -- return 2
        show retQ _ _ _ _ _ _ _ _
        refine retB3 ag.api_Input (hp := Part.nil _) (hpost := ?_)
        rw [hP, if_neg c21, if_neg c31, if_neg (fun h => by rw [h] at c52; simp at c52)]
        rfl
      · -- else_t52
        refine JC.skip ?_
        refine JC.rs ?_
        refine Seq.p rfl (Ev.ldBA (cs := i.enc) ag.api_Input) ?_
        refine Seq.p rfl Ev.move ?_
        refine Seq.storeTo (cs' := i.enc) sz.api_Input (hH := by repeat (first | exact At.z | apply At.s)) (hfit := Nat.le_of_ble_eq_true rfl) (hcs := rfl) (k := ?_)
        refine Seq.p rfl Ev.assign ?_
        refine Seq.p rfl Ev.assign ?_
        refine Seq.nil ?_
        refine JC.ret ?_
        -- return 3
        show retQ _ _ _ _ _ _ _ _
        refine retB3 ag.api_Input (hp := Part.nil _) (hpost := ?_)
        have hq : pq = (0, l.take R.size) := by
          simp only [Bool.or_eq_false_iff, decide_eq_false_iff_not, Classical.not_not] at c52
          have h2 := (strOf_inj hlb (fun n hn => hB n (List.mem_of_mem_take hn))).1 c52.2
          exact Prod.ext c52.1 h2
        rw [hP, if_neg c21, if_neg c31, if_pos hq]
        rfl
end Go.Rx
/- Lines read: the program's ReadEvent. -/
namespace Go.Rx
open Go Go.RowKit Go.Lib Go.Proofs.YthpejgmkiomfhaaGreatDoor
set_option linter.unusedVariables false
set_option linter.unusedSimpArgs false
/-- The digit of a kind of event; 0: none. -/
def kdF (s : ByteArray) : Int := if s = ⟨#[49]⟩ then 1 else if s = ⟨#[50]⟩ then 2 else if s = ⟨#[51]⟩ then 3 else if s = ⟨#[52]⟩ then 4 else if s = ⟨#[53]⟩ then 5 else 0
theorem kd_parts {s : ByteArray} (h : kdF s ≠ 0) : s.size = 1 ∧ IntKind.u8.wrap (bAt s 0 - 48) = kdF s ∧ 1 ≤ kdF s ∧ kdF s ≤ 5 := by
  by_cases h1 : s = ⟨#[49]⟩
  · subst h1; decide
  by_cases h2 : s = ⟨#[50]⟩
  · subst h2; decide
  by_cases h3 : s = ⟨#[51]⟩
  · subst h3; decide
  by_cases h4 : s = ⟨#[52]⟩
  · subst h4; decide
  by_cases h5 : s = ⟨#[53]⟩
  · subst h5; decide
  exact absurd (by unfold kdF; rw [if_neg h1, if_neg h2, if_neg h3, if_neg h4, if_neg h5]) h
theorem kd_five (s : ByteArray) : containsS [⟨#[49]⟩, ⟨#[50]⟩, ⟨#[51]⟩, ⟨#[52]⟩, ⟨#[53]⟩] s = decide (kdF s ≠ 0) := by
  have h := containsS_iff [⟨#[49]⟩, ⟨#[50]⟩, ⟨#[51]⟩, ⟨#[52]⟩, ⟨#[53]⟩] s
  by_cases hk : kdF s = 0
  · rw [decide_eq_false (by simpa using hk)]
    cases hc : containsS [⟨#[49]⟩, ⟨#[50]⟩, ⟨#[51]⟩, ⟨#[52]⟩, ⟨#[53]⟩] s with
    | false => rfl
    | true =>
      have hm := h.1 hc
      simp only [List.mem_cons, List.not_mem_nil, or_false] at hm
      rcases hm with rfl | rfl | rfl | rfl | rfl <;> exact absurd hk (by decide)
  · rw [decide_eq_true hk]
    refine h.2 ?_
    unfold kdF at hk
    simp only [List.mem_cons, List.not_mem_nil, or_false]
    (repeat' split at hk) <;> simp_all
theorem textContains5 {w : World} {b : Nat} {s : ByteArray} {w0 : World} {Cs H : List Chunk} {i : Nat} (hH : At H i (.box b 9 [.string ⟨#[49]⟩, .string ⟨#[50]⟩, .string ⟨#[51]⟩, .string ⟨#[52]⟩, .string ⟨#[53]⟩])) (hw : Upd w0 w Cs H) :
    Spec Go.Proofs.Tryz.prog 30 #[.slice (some ⟨b, 0, none⟩) 5 5, .string s] w [] (fun u _ => u = .bool (decide (kdF s ≠ 0))) := by
  refine spec_same ⟨Go.Proofs.Tryz.f30, Go.Proofs.Tryz.func30, by kernel_rfl, rfl⟩ ?_
  have hc := Go.Proofs.Tryz.slices_Contains_string b 0 5 5 [⟨#[49]⟩, ⟨#[50]⟩, ⟨#[51]⟩, ⟨#[52]⟩, ⟨#[53]⟩] s w (by decide) (by decide) (fun j hj => by
    have hj4 : j < 5 := hj
    have h1 : ∀ v, [Value.string ⟨#[49]⟩, .string ⟨#[50]⟩, .string ⟨#[51]⟩, .string ⟨#[52]⟩, .string ⟨#[53]⟩][j]? = some v → w.cell? ⟨b, 0 + j, none⟩ = some v := fun v hv => (box_cell hw hH (by rw [Nat.zero_add]; exact hv)).1
    have : j = 0 ∨ j = 1 ∨ j = 2 ∨ j = 3 ∨ j = 4 := by omega
    rcases this with rfl | rfl | rfl | rfl | rfl <;> exact h1 _ rfl)
  rw [show ([⟨#[49]⟩, ⟨#[50]⟩, ⟨#[51]⟩, ⟨#[52]⟩, ⟨#[53]⟩] : List ByteArray).take 5 = [⟨#[49]⟩, ⟨#[50]⟩, ⟨#[51]⟩, ⟨#[52]⟩, ⟨#[53]⟩] from rfl, kd_five] at hc
  exact hc
theorem eventOfF_wf (k : Int) (xs : List Tg) : (eventOfF k (valuedF xs)).Wf :=
  ⟨valued_range _ _, valued_range _ _, valued_range _ _, valued_range _ _, by show 0 ≤ _ % 4294967296 ∧ _ % 4294967296 ≤ (4294967295 : Int); omega, s64_range _, s64_range _, s64_range _, valued_range _ _, valued_range _ _, s64_range _, s64_range _⟩
theorem evLineF_bytes (e : Event) : isBytes (evLineF e).2 := by
  have he : ∀ kind xs, isBytes (encF kind xs).2 := fun kind xs => by
    unfold encF
    (repeat' split) <;> first | exact line_bytes _ _ | (intro x hx; cases hx)
  unfold evLineF
  split
  · exact he _ _
  · intro x hx; cases hx
def notEv (R : ReadA) : Prop := R.kind ≠ ⟨#[56]⟩ ∨ R.tags.length < 2 ∨ R.tags[1]!.tag ≠ 150
instance (R : ReadA) : Decidable (notEv R) := by unfold notEv; infer_instance
def evReadF (l : List Int) : Event × Int × Int :=
  if (readF l).why ≠ 0 then (ev0 0, (readF l).place, (readF l).why)
  else if notEv (readF l) ∨ kdF (readF l).tags[1]!.value = 0 then (ev0 0, 0, 41)
  else if evLineF (eventOfF (kdF (readF l).tags[1]!.value) (valuedF (readF l).tags)) = (0, l.take (readF l).size) then (eventOfF (kdF (readF l).tags[1]!.value) (valuedF (readF l).tags), ((readF l).size : Int), 0)
  else (ev0 0, 0, 40)
def evReadV (p : Event × Int × Int) : Value := .tuple #[.agg p.1.enc.toArray, .int .i64 p.2.1, .int .i64 p.2.2]
set_option maxHeartbeats 4000000 in
set_option maxRecDepth 100000 in
theorem msgReadEvent {w : World} {v : Value} {l : List Int} (hr : RSl byteEnc 1 w [] v l) (hB : isBytes l) (hl : l.length ≤ 140737488355328) (hL : Laid w) :
    Spec Go.Proofs.Tryz.prog 9 #[v] w [] (fun u _ => u = evReadV (evReadF l)) := by
  have hpl := read_place (l := l) hB
  have hts := readF_tags (l := l) (N := 140737488355328) hl
  obtain ⟨R, hR⟩ : ∃ R, R = readF l := ⟨_, rfl⟩
  have hP : evReadF l = if R.why ≠ 0 then (ev0 0, R.place, R.why) else if notEv R ∨ kdF R.tags[1]!.value = 0 then (ev0 0, 0, 41) else if evLineF (eventOfF (kdF R.tags[1]!.value) (valuedF R.tags)) = (0, l.take R.size) then (eventOfF (kdF R.tags[1]!.value) (valuedF R.tags), (R.size : Int), 0) else (ev0 0, 0, 40) := by
    rw [hR]
    rfl
  rw [← hR] at hpl hts
  have hkp := kd_parts (s := R.tags[1]!.value)
  obtain ⟨kd, hkd⟩ : ∃ kd, kd = kdF R.tags[1]!.value := ⟨_, rfl⟩
  have hcon : ∀ {w : World} {b : Nat} {w0 : World} {Cs H : List Chunk} {i : Nat}, At H i (.box b 9 [.string ⟨#[49]⟩, .string ⟨#[50]⟩, .string ⟨#[51]⟩, .string ⟨#[52]⟩, .string ⟨#[53]⟩]) → Upd w0 w Cs H → Spec Go.Proofs.Tryz.prog 30 #[.slice (some ⟨b, 0, none⟩) 5 5, .string R.tags[1]!.value] w [] (fun u _ => u = .bool (decide (kd ≠ 0))) := fun hH hw => hkd ▸ textContains5 hH hw
  rw [← hkd] at hP hkp
  have hwf := eventOfF_wf kd R.tags
  obtain ⟨e, he⟩ : ∃ e, e = eventOfF kd (valuedF R.tags) := ⟨_, rfl⟩
  rw [← he] at hP hwf
  have hlb := evLineF_bytes e
  have hll := evLineF_len e
  obtain ⟨pq, hpl0⟩ : ∃ pq, pq = evLineF e := ⟨_, rfl⟩
  rw [← hpl0] at hP hlb hll
  refine Spec.enter (fn := Go.Proofs.Tryz.f9) (n := 77) [v] Go.Proofs.Tryz.func9 (by kernel_rfl) rfl Go.Proofs.Tryz.ntmps9 Go.Proofs.Tryz.results9 rfl (Own.nil _) ?_
  refine JC.rs ?_
  refine Seq.alloc (cs := [_, _, _, _, _, _, _, _, _, _, _, _, _]) (hz := z.api_Event) (k := ?_); intro b2
  refine Seq.p rfl Ev.assign ?_
  refine Seq.p rfl Ev.assign ?_
  refine Seq.nil ?_
  refine JC.rs ?_
  refine Seq.p rfl Ev.move ?_
  refine Seq.call rfl (fun w' hw => by have h := textDecode (hr.up hw) hB (by omega) (hL.upd hw); rw [← hR] at h; exact h) (F := _) (by exact List.Perm.refl _) ?_
  rintro _ _ ⟨A14, c14, rfl, rfl⟩
  simp only [List.cons_append, List.nil_append]
  refine Seq.p rfl Ev.move ?_
  refine Seq.p rfl Ev.extract ?_
  refine Seq.p rfl Ev.extract ?_
  refine Seq.p rfl Ev.extract ?_
  refine Seq.p rfl Ev.extract ?_
  refine Seq.p rfl Ev.assign ?_
  refine Seq.p rfl Ev.assign ?_
  refine Seq.p rfl Ev.assign ?_
  refine Seq.p rfl Ev.assign ?_
  refine Seq.nil ?_
  refine JC.seq ?_
  refine JC.rs ?_
  refine Seq.p rfl Ev.move ?_
  refine Seq.p rfl Ev.ne ?_
  refine Seq.nil ?_
  first | refine JC.c (ht := fun c20 => ?_) (hf := fun c20 => ?_) | refine JC.cb (ht := fun c20 => ?_) (hf := fun c20 => ?_)
  · -- then_t20
    refine JC.rs ?_
    refine Seq.p rfl (Ev.buildN [_, _, _, _, _, _, _, _, _, _, _, _, _] pl.api_Event z.api_Event) ?_
    refine Seq.p rfl Ev.move ?_
    refine Seq.p rfl Ev.move ?_
    refine Seq.storeN [_, _, _, _, _, _, _, _, _, _, _, _, _] sz.api_Event (k := ?_)
    refine Seq.p rfl Ev.assign ?_
    refine Seq.p rfl Ev.assign ?_
    refine Seq.nil ?_
    refine JC.ret ?_
    -- return 0
    show retQ _ _ _ _ _ _ _ _
    refine retB3 ag.api_Event (hp := Part.nil _) (hpost := ?_)
    rw [hP, if_pos c20]
    rfl
  · -- else_t20
    obtain ⟨hpz, hsz⟩ := hpl (Classical.not_not.1 c20)
    refine JC.skip ?_
    refine JC.seq ?_
    refine JC.rs ?_
    refine Seq.p rfl Ev.move ?_
    refine Seq.p rfl Ev.neStr ?_
    refine Seq.p rfl Ev.move ?_
    refine Seq.orG (D := [26, 27, 28, 29, 30]) (d := 26) (t := 30) (k := 4) (hn := fun h26 => ?_) (hx := ?_)
    · repeat (first | refine Seq.gn rfl rfl rfl rfl ?_ | refine Seq.gu rfl rfl rfl ?_)
      refine Seq.p rfl Ev.pickT ?_
      exact Seq.nil ⟨rfl, (by repeat (first | with_reducible exact Off.refl | refine Off.upd ?_ rfl | exact Off.mix | refine Off.mix2 ?_ rfl)), Look.here⟩
    apply Exists.intro
    refine ⟨fun h26 => ?_, fun u30 => ?_⟩
    · try simp only [decide_eq_true_eq, decide_eq_false_iff_not, Bool.and_eq_true, Bool.or_eq_true, Bool.not_eq_true', Bool.not_eq_false', Bool.or_eq_false_iff, Bool.and_eq_false_imp] at h26
      refine Seq.gy rfl rfl rfl ?_
      refine Seq.p rfl Ev.move ?_
      refine Seq.gy rfl rfl rfl ?_
      refine Seq.p rfl (Ev.lenSl sl.sl_api_Tag (hr := RAt.own (enc := Tg.enc) (xs := R.tags) (hs := by omega))) ?_
      refine Seq.gy rfl rfl rfl ?_
      refine Seq.p rfl Ev.lt ?_
      refine Seq.p rfl Ev.pickF ?_
      exact Seq.nil ⟨rfl, (by repeat (first | with_reducible exact Off.refl | refine Off.upd ?_ rfl | exact Off.mix | refine Off.mix2 ?_ rfl)), Look.here⟩
    refine Seq.p rfl Ev.move ?_
    refine Seq.orG (D := [31, 32, 33, 34, 35, 36, 37]) (d := 31) (t := 37) (k := 6) (hn := fun h31 => ?_) (hx := ?_)
    · repeat (first | refine Seq.gn rfl rfl rfl rfl ?_ | refine Seq.gu rfl rfl rfl ?_)
      refine Seq.p rfl Ev.pickT ?_
      exact Seq.nil ⟨rfl, (by repeat (first | with_reducible exact Off.refl | refine Off.upd ?_ rfl | exact Off.mix | refine Off.mix2 ?_ rfl)), Look.here⟩
    apply Exists.intro
    refine ⟨fun h31 => ?_, fun u37 => ?_⟩
    · try simp only [decide_eq_true_eq, decide_eq_false_iff_not, Bool.and_eq_true, Bool.or_eq_true, Bool.not_eq_true', Bool.not_eq_false', Bool.or_eq_false_iff, Bool.and_eq_false_imp] at h31
      have h31b := h31.2
      refine Seq.gy rfl rfl rfl ?_
      refine Seq.p rfl Ev.move ?_
      refine Seq.gy rfl rfl rfl ?_
      refine Seq.p rfl (Ev.iaN sl.sl_api_Tag (i := 1) (hr := RAt.own (enc := Tg.enc) (xs := R.tags) (hs := by omega))) ?_
      refine Seq.gy rfl rfl rfl ?_
      refine Seq.p rfl (Ev.fa fd.api_Tag_0) ?_
      refine Seq.gy rfl rfl rfl ?_
      refine Seq.p rfl (Ev.ldE sc.int (i := 1) (off := 0) (hr := RAt.own (enc := Tg.enc) (xs := R.tags) (hs := by omega))) ?_
      refine Seq.gy rfl rfl rfl ?_
      refine Seq.p rfl Ev.ne ?_
      refine Seq.p rfl Ev.pickF ?_
      exact Seq.nil ⟨rfl, (by repeat (first | with_reducible exact Off.refl | refine Off.upd ?_ rfl | exact Off.mix | refine Off.mix2 ?_ rfl)), Look.here⟩
    refine Seq.p rfl Ev.move ?_
    refine Seq.split (d := 38) (k := ?_)
    rintro (_|_) h38
    · try simp only [decide_eq_true_eq, decide_eq_false_iff_not] at h38
      have hne : ¬ notEv R := by
        unfold notEv
        simp only [Bool.or_eq_false_iff, decide_eq_false_iff_not] at h38
        rintro (h | h | h)
        · exact h38.1.1 h
        · exact h38.1.2 (by omega)
        · exact h38.2 h
      have hlen2 : ¬ R.tags.length < 2 := fun h => hne (.inr (.inl h))
      refine Seq.gy rfl rfl rfl ?_
      refine Seq.buildSlN [.string ⟨#[49]⟩, .string ⟨#[50]⟩, .string ⟨#[51]⟩, .string ⟨#[52]⟩, .string ⟨#[53]⟩] (hsl := sl.sl_string) (hz := z.string) (k := ?_); intro b39
      refine Seq.gy rfl rfl rfl ?_
      refine Seq.p rfl Ev.move ?_
      refine Seq.gy rfl rfl rfl ?_
      refine Seq.p rfl (Ev.iaN sl.sl_api_Tag (i := 1) (hr := RAt.own (enc := Tg.enc) (xs := R.tags) (hs := by omega))) ?_
      refine Seq.gy rfl rfl rfl ?_
      refine Seq.p rfl (Ev.fa fd.api_Tag_1) ?_
      refine Seq.gy rfl rfl rfl ?_
      refine Seq.p rfl (Ev.ldE sc.string (i := 1) (off := 1) (hr := RAt.own (enc := Tg.enc) (xs := R.tags) (hs := by omega))) ?_
      refine Seq.gy rfl rfl rfl ?_
      refine Seq.callP rfl (fun w' hw => hcon At.z hw) ?_
      refine Seq.gy rfl rfl rfl ?_
      refine Seq.p rfl Ev.not ?_
      refine Seq.p rfl Ev.pickF ?_
      refine Seq.nil ?_
      first | refine JC.c (ht := fun c46 => ?_) (hf := fun c46 => ?_) | refine JC.cb (ht := fun c46 => ?_) (hf := fun c46 => ?_)
      · -- then_t46
        have hk0 : kd = 0 := by simpa using c46
        refine JC.rs ?_
        refine Seq.p rfl (Ev.buildN [_, _, _, _, _, _, _, _, _, _, _, _, _] pl.api_Event z.api_Event) ?_
        refine Seq.storeN [_, _, _, _, _, _, _, _, _, _, _, _, _] sz.api_Event (k := ?_)
        refine Seq.p rfl Ev.assign ?_
        refine Seq.p rfl Ev.assign ?_
        refine Seq.nil ?_
        refine JC.ret ?_
        -- return 1
        show retQ _ _ _ _ _ _ _ _
        refine retB3 ag.api_Event (hp := Part.nil _) (hpost := ?_)
        rw [hP, if_neg c20, if_pos (.inr hk0)]
        rfl
      · -- else_t46
        have hk0 : kd ≠ 0 := by simpa using c46
        obtain ⟨hv1, hk1, hk2, hk3⟩ := hkp hk0
        have hno : ¬ (notEv R ∨ kd = 0) := fun h => h.elim hne hk0
        refine JC.skip ?_
        refine JC.as mixed ?_
        refine Any.p 0 rfl (by kernel_rfl) (by kernel_rfl) (by kernel_rfl) rfl Ev.move ?_
        refine Any.p 1 rfl (by kernel_rfl) (by kernel_rfl) (by kernel_rfl) rfl (Ev.iaN sl.sl_api_Tag (i := 1) (hr := RAt.own (enc := Tg.enc) (xs := R.tags) (hs := by omega))) ?_
        refine Any.p 2 rfl (by kernel_rfl) (by kernel_rfl) (by kernel_rfl) rfl (Ev.fa fd.api_Tag_1) ?_
        refine Any.p 3 rfl (by kernel_rfl) (by kernel_rfl) (by kernel_rfl) rfl (Ev.ldE sc.string (i := 1) (off := 1) (hr := RAt.own (enc := Tg.enc) (xs := R.tags) (hs := by omega))) ?_
        refine Any.p 4 rfl (by kernel_rfl) (by kernel_rfl) (by kernel_rfl) rfl (Ev.indexStr st.string (i := 0) (hi := by rw [hv1]; decide)) ?_
        refine Any.p 5 rfl (by kernel_rfl) (by kernel_rfl) (by kernel_rfl) rfl (Ev.as (v' := .int .u8 kd) (by rw [← hk1]) (Ev.subW (k := .u8) (a := bAt R.tags[1]!.value 0) (b := 48))) ?_
        refine Any.p 6 rfl (by kernel_rfl) (by kernel_rfl) (by kernel_rfl) rfl (Ev.conv64 it.uint8 it.int) ?_
        refine Any.p 7 rfl (by kernel_rfl) (by kernel_rfl) (by kernel_rfl) rfl Ev.move ?_
        refine Any.two 8 10 rfl rfl (by kernel_rfl) ?_ ?_
        · -- first 8
          refine Seq.call rfl (fun w' hw => msgValued (RAt.up (RAt.own (enc := Tg.enc) (xs := R.tags) (hs := by omega)) hw) (fun t ht => by have := hts.1 t ht; omega) (hL.upd hw)) (F := _) (by exact List.Perm.refl _) ?_
          rintro _ _ ⟨bm, rfl, rfl⟩
          simp only [List.cons_append, List.nil_append]
          refine Seq.nil ⟨(by repeat (first | exact Part.refl _ | exact Part.nil _ | apply Part.here | apply Part.skip)), ?_⟩
          refine Any.two 9 10 rfl rfl (by kernel_rfl) ?_ ?_
          · -- first 9
            refine Seq.callP rfl (v := .agg e.enc.toArray) (fun w' hw => by have h := msgEventOf (k := kd) (RM.up RM.own hw); rw [← he] at h; exact h) ?_
            refine Seq.nil ⟨(by repeat (first | exact Part.refl _ | exact Part.nil _ | apply Part.here | apply Part.skip)), ?_⟩
            refine Any.one 10 rfl (by kernel_rfl) ?_
            refine Seq.alloc (cs := [_, _, _, _, _, _, _, _, _, _, _, _, _]) (hz := z.api_Event) (k := ?_); intro b9
            refine Seq.nil ⟨(by repeat (first | exact Part.refl _ | exact Part.nil _ | apply Part.here | apply Part.skip)), ?_⟩
            refine Any.one 11 rfl (by kernel_rfl) ?_
            refine Seq.storeTo (cs' := e.enc) sz.api_Event (hH := by repeat (first | exact At.z | apply At.s)) (hfit := Nat.le_of_ble_eq_true rfl) (hcs := rfl) (k := ?_)
            refine Seq.nil ⟨(by repeat (first | exact Part.refl _ | exact Part.nil _ | apply Part.here | apply Part.skip)), ?_⟩
            refine Any.done (by kernel_rfl) ?_
            refine JC.seq ?_
            refine JC.rs ?_
            refine Seq.p rfl (Ev.ldBA (cs := e.enc) ag.api_Event) ?_
            refine Seq.call rfl (fun w' hw => by have h := msgEventLine (w := w') hwf (hL.t.upd hw); rw [← hpl0] at h; exact h) (F := _) (by exact List.Perm.refl _) ?_
            rintro _ _ ⟨A60, c60, rfl, rfl⟩
            simp only [List.cons_append, List.nil_append]
            rw [hpz]
            refine Seq.p rfl Ev.move ?_
            refine Seq.p rfl Ev.extract ?_
            refine Seq.p rfl Ev.extract ?_
            refine Seq.p rfl Ev.assign ?_
            refine Seq.p rfl Ev.assign ?_
            refine Seq.nil ?_
            refine JC.qs mixed (by kernel_rfl) ?_
            refine Qui.p rfl Ev.move ?_
            refine Qui.p rfl Ev.ne ?_
            refine Qui.p rfl Ev.move ?_
            refine Qui.orG (D := [65, 66, 67, 68, 69, 70, 71, 72, 73]) (d := 65) (t := 73) (k := 8) (hn := fun h65 => ?_) (hx := ?_)
            · repeat (first | refine Qui.gn rfl rfl rfl rfl ?_ | refine Qui.gu rfl rfl rfl ?_)
              refine Qui.p rfl Ev.pickT ?_
              exact Qui.nil ⟨(by repeat (first | with_reducible exact Off.refl | refine Off.upd ?_ rfl | exact Off.mix | refine Off.mix2 ?_ rfl)), Look.here⟩
            apply Exists.intro
            refine ⟨fun h65 => ?_, fun u73 => ?_⟩
            · try simp only [decide_eq_true_eq, decide_eq_false_iff_not, Bool.and_eq_true, Bool.or_eq_true, Bool.not_eq_true', Bool.not_eq_false', Bool.or_eq_false_iff, Bool.and_eq_false_imp] at h65
              refine Qui.gy rfl rfl rfl ?_
              refine Qui.p rfl Ev.move ?_
              refine Qui.gy rfl rfl rfl ?_
              refine Qui.p rfl (Ev.strOf (l := pq.2) sl.sl_uint8 it.uint8 st.string (hr := RAt.own (enc := byteEnc) (xs := pq.2))) ?_
              refine Qui.gy rfl rfl rfl ?_
              refine Qui.p rfl Ev.move ?_
              refine Qui.gy rfl rfl rfl ?_
              refine Qui.p rfl Ev.move ?_
              refine Qui.gy rfl rfl rfl ?_
              refine Qui.p rfl (Ev.cut sl.sl_uint8 (hr := hr.r) (l := 0) (h := R.size) (hlo := rfl) (hhi := ⟨_, (by repeat (first | exact Look.here | apply Look.there (hne := rfl) | exact Look.const | apply Look.mix rfl | exact Look.arg0 | apply Look.args | exact Look.func))⟩)) ?_
              refine Qui.gy rfl rfl rfl ?_
              refine Qui.p rfl (Ev.strOf (l := l.take R.size) sl.sl_uint8 it.uint8 st.string (hr := (hr.sub (lo := 0) (hi := R.size) (by omega) hsz).r)) ?_
              refine Qui.gy rfl rfl rfl ?_
              refine Qui.p rfl Ev.neStr ?_
              refine Qui.p rfl Ev.pickF ?_
              exact Qui.nil ⟨(by repeat (first | with_reducible exact Off.refl | refine Off.upd ?_ rfl | exact Off.mix | refine Off.mix2 ?_ rfl)), Look.here⟩
            refine Qui.nil ?_
            first | refine JC.c (ht := fun c73 => ?_) (hf := fun c73 => ?_) | refine JC.cb (ht := fun c73 => ?_) (hf := fun c73 => ?_)
            · -- then_t73
              refine JC.rs ?_
              refine Seq.p rfl (Ev.buildN [_, _, _, _, _, _, _, _, _, _, _, _, _] pl.api_Event z.api_Event) ?_
              refine Seq.storeN [_, _, _, _, _, _, _, _, _, _, _, _, _] sz.api_Event (k := ?_)
              refine Seq.p rfl Ev.assign ?_
              refine Seq.p rfl Ev.assign ?_
              refine Seq.nil ?_
              refine JC.ret ?_
              -- return 2
              show retQ _ _ _ _ _ _ _ _
              refine retB3 ag.api_Event (hp := Part.nil _) (hpost := ?_)
              first
                | (rw [hP, if_neg c20, if_neg hno, if_neg (fun h => by rw [h] at c73; simp at c73)]; rfl)
                | (have hq : pq = (0, l.take R.size) := by
                     simp only [Bool.or_eq_false_iff, decide_eq_false_iff_not, Classical.not_not] at c73
                     have h2 := (strOf_inj hlb (fun n hn => hB n (List.mem_of_mem_take hn))).1 c73.2
                     exact Prod.ext c73.1 h2
                   rw [hP, if_neg c20, if_neg hno, if_pos hq]
                   rfl)
                | (rw [hP, if_neg c20, if_pos (.inl hne)]; rfl)
            · -- else_t73
              refine JC.skip ?_
              refine JC.rs ?_
              refine Seq.p rfl (Ev.ldBA (cs := e.enc) ag.api_Event) ?_
              refine Seq.p rfl Ev.move ?_
              refine Seq.storeTo (cs' := e.enc) sz.api_Event (hH := by repeat (first | exact At.z | apply At.s)) (hfit := Nat.le_of_ble_eq_true rfl) (hcs := rfl) (k := ?_)
              refine Seq.p rfl Ev.assign ?_
              refine Seq.p rfl Ev.assign ?_
              refine Seq.nil ?_
              refine JC.ret ?_
              -- return 3
              show retQ _ _ _ _ _ _ _ _
              refine retB3 ag.api_Event (hp := Part.nil _) (hpost := ?_)
              first
                | (rw [hP, if_neg c20, if_neg hno, if_neg (fun h => by rw [h] at c73; simp at c73)]; rfl)
                | (have hq : pq = (0, l.take R.size) := by
                     simp only [Bool.or_eq_false_iff, decide_eq_false_iff_not, Classical.not_not] at c73
                     have h2 := (strOf_inj hlb (fun n hn => hB n (List.mem_of_mem_take hn))).1 c73.2
                     exact Prod.ext c73.1 h2
                   rw [hP, if_neg c20, if_neg hno, if_pos hq]
                   rfl)
                | (rw [hP, if_neg c20, if_pos (.inl hne)]; rfl)
          · -- first 10
            refine Seq.alloc (cs := [_, _, _, _, _, _, _, _, _, _, _, _, _]) (hz := z.api_Event) (k := ?_); intro b9
            refine Seq.nil ⟨(by repeat (first | exact Part.refl _ | exact Part.nil _ | apply Part.here | apply Part.skip)), ?_⟩
            refine Any.one 9 rfl (by kernel_rfl) ?_
            refine Seq.callP rfl (v := .agg e.enc.toArray) (fun w' hw => by have h := msgEventOf (k := kd) (RM.up RM.own hw); rw [← he] at h; exact h) ?_
            refine Seq.nil ⟨(by repeat (first | exact Part.refl _ | exact Part.nil _ | apply Part.here | apply Part.skip)), ?_⟩
            refine Any.one 11 rfl (by kernel_rfl) ?_
            refine Seq.storeTo (cs' := e.enc) sz.api_Event (hH := by repeat (first | exact At.z | apply At.s)) (hfit := Nat.le_of_ble_eq_true rfl) (hcs := rfl) (k := ?_)
            refine Seq.nil ⟨(by repeat (first | exact Part.refl _ | exact Part.nil _ | apply Part.here | apply Part.skip)), ?_⟩
            refine Any.done (by kernel_rfl) ?_
            refine JC.seq ?_
            refine JC.rs ?_
            refine Seq.p rfl (Ev.ldBA (cs := e.enc) ag.api_Event) ?_
            refine Seq.call rfl (fun w' hw => by have h := msgEventLine (w := w') hwf (hL.t.upd hw); rw [← hpl0] at h; exact h) (F := _) (by exact List.Perm.refl _) ?_
            rintro _ _ ⟨A60, c60, rfl, rfl⟩
            simp only [List.cons_append, List.nil_append]
            rw [hpz]
            refine Seq.p rfl Ev.move ?_
            refine Seq.p rfl Ev.extract ?_
            refine Seq.p rfl Ev.extract ?_
            refine Seq.p rfl Ev.assign ?_
            refine Seq.p rfl Ev.assign ?_
            refine Seq.nil ?_
            refine JC.qs mixed (by kernel_rfl) ?_
            refine Qui.p rfl Ev.move ?_
            refine Qui.p rfl Ev.ne ?_
            refine Qui.p rfl Ev.move ?_
            refine Qui.orG (D := [65, 66, 67, 68, 69, 70, 71, 72, 73]) (d := 65) (t := 73) (k := 8) (hn := fun h65 => ?_) (hx := ?_)
            · repeat (first | refine Qui.gn rfl rfl rfl rfl ?_ | refine Qui.gu rfl rfl rfl ?_)
              refine Qui.p rfl Ev.pickT ?_
              exact Qui.nil ⟨(by repeat (first | with_reducible exact Off.refl | refine Off.upd ?_ rfl | exact Off.mix | refine Off.mix2 ?_ rfl)), Look.here⟩
            apply Exists.intro
            refine ⟨fun h65 => ?_, fun u73 => ?_⟩
            · try simp only [decide_eq_true_eq, decide_eq_false_iff_not, Bool.and_eq_true, Bool.or_eq_true, Bool.not_eq_true', Bool.not_eq_false', Bool.or_eq_false_iff, Bool.and_eq_false_imp] at h65
              refine Qui.gy rfl rfl rfl ?_
              refine Qui.p rfl Ev.move ?_
              refine Qui.gy rfl rfl rfl ?_
              refine Qui.p rfl (Ev.strOf (l := pq.2) sl.sl_uint8 it.uint8 st.string (hr := RAt.own (enc := byteEnc) (xs := pq.2))) ?_
              refine Qui.gy rfl rfl rfl ?_
              refine Qui.p rfl Ev.move ?_
              refine Qui.gy rfl rfl rfl ?_
              refine Qui.p rfl Ev.move ?_
              refine Qui.gy rfl rfl rfl ?_
              refine Qui.p rfl (Ev.cut sl.sl_uint8 (hr := hr.r) (l := 0) (h := R.size) (hlo := rfl) (hhi := ⟨_, (by repeat (first | exact Look.here | apply Look.there (hne := rfl) | exact Look.const | apply Look.mix rfl | exact Look.arg0 | apply Look.args | exact Look.func))⟩)) ?_
              refine Qui.gy rfl rfl rfl ?_
              refine Qui.p rfl (Ev.strOf (l := l.take R.size) sl.sl_uint8 it.uint8 st.string (hr := (hr.sub (lo := 0) (hi := R.size) (by omega) hsz).r)) ?_
              refine Qui.gy rfl rfl rfl ?_
              refine Qui.p rfl Ev.neStr ?_
              refine Qui.p rfl Ev.pickF ?_
              exact Qui.nil ⟨(by repeat (first | with_reducible exact Off.refl | refine Off.upd ?_ rfl | exact Off.mix | refine Off.mix2 ?_ rfl)), Look.here⟩
            refine Qui.nil ?_
            first | refine JC.c (ht := fun c73 => ?_) (hf := fun c73 => ?_) | refine JC.cb (ht := fun c73 => ?_) (hf := fun c73 => ?_)
            · -- then_t73
              refine JC.rs ?_
              refine Seq.p rfl (Ev.buildN [_, _, _, _, _, _, _, _, _, _, _, _, _] pl.api_Event z.api_Event) ?_
              refine Seq.storeN [_, _, _, _, _, _, _, _, _, _, _, _, _] sz.api_Event (k := ?_)
              refine Seq.p rfl Ev.assign ?_
              refine Seq.p rfl Ev.assign ?_
              refine Seq.nil ?_
              refine JC.ret ?_
              -- return 4
              show retQ _ _ _ _ _ _ _ _
              refine retB3 ag.api_Event (hp := Part.nil _) (hpost := ?_)
              first
                | (rw [hP, if_neg c20, if_neg hno, if_neg (fun h => by rw [h] at c73; simp at c73)]; rfl)
                | (have hq : pq = (0, l.take R.size) := by
                     simp only [Bool.or_eq_false_iff, decide_eq_false_iff_not, Classical.not_not] at c73
                     have h2 := (strOf_inj hlb (fun n hn => hB n (List.mem_of_mem_take hn))).1 c73.2
                     exact Prod.ext c73.1 h2
                   rw [hP, if_neg c20, if_neg hno, if_pos hq]
                   rfl)
                | (rw [hP, if_neg c20, if_pos (.inl hne)]; rfl)
            · -- else_t73
              refine JC.skip ?_
              refine JC.rs ?_
              refine Seq.p rfl (Ev.ldBA (cs := e.enc) ag.api_Event) ?_
              refine Seq.p rfl Ev.move ?_
              refine Seq.storeTo (cs' := e.enc) sz.api_Event (hH := by repeat (first | exact At.z | apply At.s)) (hfit := Nat.le_of_ble_eq_true rfl) (hcs := rfl) (k := ?_)
              refine Seq.p rfl Ev.assign ?_
              refine Seq.p rfl Ev.assign ?_
              refine Seq.nil ?_
              refine JC.ret ?_
              -- return 5
              show retQ _ _ _ _ _ _ _ _
              refine retB3 ag.api_Event (hp := Part.nil _) (hpost := ?_)
              first
                | (rw [hP, if_neg c20, if_neg hno, if_neg (fun h => by rw [h] at c73; simp at c73)]; rfl)
                | (have hq : pq = (0, l.take R.size) := by
                     simp only [Bool.or_eq_false_iff, decide_eq_false_iff_not, Classical.not_not] at c73
                     have h2 := (strOf_inj hlb (fun n hn => hB n (List.mem_of_mem_take hn))).1 c73.2
                     exact Prod.ext c73.1 h2
                   rw [hP, if_neg c20, if_neg hno, if_pos hq]
                   rfl)
                | (rw [hP, if_neg c20, if_pos (.inl hne)]; rfl)
        · -- first 10
          refine Seq.alloc (cs := [_, _, _, _, _, _, _, _, _, _, _, _, _]) (hz := z.api_Event) (k := ?_); intro b9
          refine Seq.nil ⟨(by repeat (first | exact Part.refl _ | exact Part.nil _ | apply Part.here | apply Part.skip)), ?_⟩
          refine Any.one 8 rfl (by kernel_rfl) ?_
          refine Seq.call rfl (fun w' hw => msgValued (RAt.up (RAt.own (enc := Tg.enc) (xs := R.tags) (hs := by omega)) hw) (fun t ht => by have := hts.1 t ht; omega) (hL.upd hw)) (F := _) (by exact List.Perm.refl _) ?_
          rintro _ _ ⟨bm, rfl, rfl⟩
          simp only [List.cons_append, List.nil_append]
          refine Seq.nil ⟨(by repeat (first | exact Part.refl _ | exact Part.nil _ | apply Part.here | apply Part.skip)), ?_⟩
          refine Any.one 9 rfl (by kernel_rfl) ?_
          refine Seq.callP rfl (v := .agg e.enc.toArray) (fun w' hw => by have h := msgEventOf (k := kd) (RM.up RM.own hw); rw [← he] at h; exact h) ?_
          refine Seq.nil ⟨(by repeat (first | exact Part.refl _ | exact Part.nil _ | apply Part.here | apply Part.skip)), ?_⟩
          refine Any.one 11 rfl (by kernel_rfl) ?_
          refine Seq.storeTo (cs' := e.enc) sz.api_Event (hH := by repeat (first | exact At.z | apply At.s)) (hfit := Nat.le_of_ble_eq_true rfl) (hcs := rfl) (k := ?_)
          refine Seq.nil ⟨(by repeat (first | exact Part.refl _ | exact Part.nil _ | apply Part.here | apply Part.skip)), ?_⟩
          refine Any.done (by kernel_rfl) ?_
          refine JC.seq ?_
          refine JC.rs ?_
          refine Seq.p rfl (Ev.ldBA (cs := e.enc) ag.api_Event) ?_
          refine Seq.call rfl (fun w' hw => by have h := msgEventLine (w := w') hwf (hL.t.upd hw); rw [← hpl0] at h; exact h) (F := _) (by exact List.Perm.refl _) ?_
          rintro _ _ ⟨A60, c60, rfl, rfl⟩
          simp only [List.cons_append, List.nil_append]
          rw [hpz]
          refine Seq.p rfl Ev.move ?_
          refine Seq.p rfl Ev.extract ?_
          refine Seq.p rfl Ev.extract ?_
          refine Seq.p rfl Ev.assign ?_
          refine Seq.p rfl Ev.assign ?_
          refine Seq.nil ?_
          refine JC.qs mixed (by kernel_rfl) ?_
          refine Qui.p rfl Ev.move ?_
          refine Qui.p rfl Ev.ne ?_
          refine Qui.p rfl Ev.move ?_
          refine Qui.orG (D := [65, 66, 67, 68, 69, 70, 71, 72, 73]) (d := 65) (t := 73) (k := 8) (hn := fun h65 => ?_) (hx := ?_)
          · repeat (first | refine Qui.gn rfl rfl rfl rfl ?_ | refine Qui.gu rfl rfl rfl ?_)
            refine Qui.p rfl Ev.pickT ?_
            exact Qui.nil ⟨(by repeat (first | with_reducible exact Off.refl | refine Off.upd ?_ rfl | exact Off.mix | refine Off.mix2 ?_ rfl)), Look.here⟩
          apply Exists.intro
          refine ⟨fun h65 => ?_, fun u73 => ?_⟩
          · try simp only [decide_eq_true_eq, decide_eq_false_iff_not, Bool.and_eq_true, Bool.or_eq_true, Bool.not_eq_true', Bool.not_eq_false', Bool.or_eq_false_iff, Bool.and_eq_false_imp] at h65
            refine Qui.gy rfl rfl rfl ?_
            refine Qui.p rfl Ev.move ?_
            refine Qui.gy rfl rfl rfl ?_
            refine Qui.p rfl (Ev.strOf (l := pq.2) sl.sl_uint8 it.uint8 st.string (hr := RAt.own (enc := byteEnc) (xs := pq.2))) ?_
            refine Qui.gy rfl rfl rfl ?_
            refine Qui.p rfl Ev.move ?_
            refine Qui.gy rfl rfl rfl ?_
            refine Qui.p rfl Ev.move ?_
            refine Qui.gy rfl rfl rfl ?_
            refine Qui.p rfl (Ev.cut sl.sl_uint8 (hr := hr.r) (l := 0) (h := R.size) (hlo := rfl) (hhi := ⟨_, (by repeat (first | exact Look.here | apply Look.there (hne := rfl) | exact Look.const | apply Look.mix rfl | exact Look.arg0 | apply Look.args | exact Look.func))⟩)) ?_
            refine Qui.gy rfl rfl rfl ?_
            refine Qui.p rfl (Ev.strOf (l := l.take R.size) sl.sl_uint8 it.uint8 st.string (hr := (hr.sub (lo := 0) (hi := R.size) (by omega) hsz).r)) ?_
            refine Qui.gy rfl rfl rfl ?_
            refine Qui.p rfl Ev.neStr ?_
            refine Qui.p rfl Ev.pickF ?_
            exact Qui.nil ⟨(by repeat (first | with_reducible exact Off.refl | refine Off.upd ?_ rfl | exact Off.mix | refine Off.mix2 ?_ rfl)), Look.here⟩
          refine Qui.nil ?_
          first | refine JC.c (ht := fun c73 => ?_) (hf := fun c73 => ?_) | refine JC.cb (ht := fun c73 => ?_) (hf := fun c73 => ?_)
          · -- then_t73
            refine JC.rs ?_
            refine Seq.p rfl (Ev.buildN [_, _, _, _, _, _, _, _, _, _, _, _, _] pl.api_Event z.api_Event) ?_
            refine Seq.storeN [_, _, _, _, _, _, _, _, _, _, _, _, _] sz.api_Event (k := ?_)
            refine Seq.p rfl Ev.assign ?_
            refine Seq.p rfl Ev.assign ?_
            refine Seq.nil ?_
            refine JC.ret ?_
            -- return 6
            show retQ _ _ _ _ _ _ _ _
            refine retB3 ag.api_Event (hp := Part.nil _) (hpost := ?_)
            first
              | (rw [hP, if_neg c20, if_neg hno, if_neg (fun h => by rw [h] at c73; simp at c73)]; rfl)
              | (have hq : pq = (0, l.take R.size) := by
                   simp only [Bool.or_eq_false_iff, decide_eq_false_iff_not, Classical.not_not] at c73
                   have h2 := (strOf_inj hlb (fun n hn => hB n (List.mem_of_mem_take hn))).1 c73.2
                   exact Prod.ext c73.1 h2
                 rw [hP, if_neg c20, if_neg hno, if_pos hq]
                 rfl)
              | (rw [hP, if_neg c20, if_pos (.inl hne)]; rfl)
          · -- else_t73
            refine JC.skip ?_
            refine JC.rs ?_
            refine Seq.p rfl (Ev.ldBA (cs := e.enc) ag.api_Event) ?_
            refine Seq.p rfl Ev.move ?_
            refine Seq.storeTo (cs' := e.enc) sz.api_Event (hH := by repeat (first | exact At.z | apply At.s)) (hfit := Nat.le_of_ble_eq_true rfl) (hcs := rfl) (k := ?_)
            refine Seq.p rfl Ev.assign ?_
            refine Seq.p rfl Ev.assign ?_
            refine Seq.nil ?_
            refine JC.ret ?_
            -- return 7
            show retQ _ _ _ _ _ _ _ _
            refine retB3 ag.api_Event (hp := Part.nil _) (hpost := ?_)
            first
              | (rw [hP, if_neg c20, if_neg hno, if_neg (fun h => by rw [h] at c73; simp at c73)]; rfl)
              | (have hq : pq = (0, l.take R.size) := by
                   simp only [Bool.or_eq_false_iff, decide_eq_false_iff_not, Classical.not_not] at c73
                   have h2 := (strOf_inj hlb (fun n hn => hB n (List.mem_of_mem_take hn))).1 c73.2
                   exact Prod.ext c73.1 h2
                 rw [hP, if_neg c20, if_neg hno, if_pos hq]
                 rfl)
              | (rw [hP, if_neg c20, if_pos (.inl hne)]; rfl)
    · try simp only [decide_eq_true_eq, decide_eq_false_iff_not] at h38
      have hne : notEv R := by
        unfold notEv
        simp only [Bool.or_eq_true, decide_eq_true_eq] at h38
        rcases h38 with (h | h) | h
        · exact .inl h
        · exact .inr (.inl (by omega))
        · exact .inr (.inr h)
      refine Seq.gn rfl rfl rfl rfl ?_
      refine Seq.gn rfl rfl rfl rfl ?_
      refine Seq.gn rfl rfl rfl rfl ?_
      refine Seq.gn rfl rfl rfl rfl ?_
      refine Seq.gn rfl rfl rfl rfl ?_
      refine Seq.gn rfl rfl rfl rfl ?_
      refine Seq.gn rfl rfl rfl rfl ?_
      refine Seq.p rfl Ev.pickT ?_
      refine Seq.nil ?_
      refine JC.cT (h := ?_)
      refine JC.rs ?_
      refine Seq.p rfl (Ev.buildN [_, _, _, _, _, _, _, _, _, _, _, _, _] pl.api_Event z.api_Event) ?_
      refine Seq.storeN [_, _, _, _, _, _, _, _, _, _, _, _, _] sz.api_Event (k := ?_)
      refine Seq.p rfl Ev.assign ?_
      refine Seq.p rfl Ev.assign ?_
      refine Seq.nil ?_
      refine JC.ret ?_
      -- return 8
      show retQ _ _ _ _ _ _ _ _
      refine retB3 ag.api_Event (hp := Part.nil _) (hpost := ?_)
      first
        | (rw [hP, if_neg c20, if_neg hno, if_neg (fun h => by rw [h] at c73; simp at c73)]; rfl)
        | (have hq : pq = (0, l.take R.size) := by
             simp only [Bool.or_eq_false_iff, decide_eq_false_iff_not, Classical.not_not] at c73
             have h2 := (strOf_inj hlb (fun n hn => hB n (List.mem_of_mem_take hn))).1 c73.2
             exact Prod.ext c73.1 h2
           rw [hP, if_neg c20, if_neg hno, if_pos hq]
           rfl)
        | (rw [hP, if_neg c20, if_pos (.inl hne)]; rfl)
end Go.Rx
/- Lines read: the document's ReadLine. -/
namespace Go.Rx
open Go Go.RowKit Go.Lib Go.Proofs.YthpejgmkiomfhaaGreatDoor
set_option linter.unusedVariables false
set_option linter.unusedSimpArgs false
def numZ (xs : List Tg) (t : Int) : Int := match numT xs t with | some n => (n : Int) | none => 0
theorem numZ_range (xs : List Tg) (t : Int) : 0 ≤ numZ xs t ∧ numZ xs t ≤ 18446744073709551615 := by
  unfold numZ
  cases hn : numT xs t with
  | none => exact ⟨by show (0 : Int) ≤ 0; decide, by show (0 : Int) ≤ _; decide⟩
  | some n =>
    unfold numT at hn
    cases hv : valueF xs t with
    | none => rw [hv] at hn; cases hn
    | some s =>
      rw [hv] at hn
      have := (numOf_some (s := s) hn).2
      show 0 ≤ (n : Int) ∧ (n : Int) ≤ _
      omega
def rdGo (xs : List Tg) (l : List RF) (a : Input) : Input := l.foldl (fun a f => withF a f.tag (numZ xs f.tag)) a
theorem rdGo_snoc (xs : List Tg) (l : List RF) (a : Input) (i : Nat) (h : i < l.length) : rdGo xs (l.take (i + 1)) a = withF (rdGo xs (l.take i) a) l[i]!.tag (numZ xs l[i]!.tag) := by
  have : l.take (i + 1) = l.take i ++ [l[i]!] := by
    rw [List.take_succ_eq_append_getElem h, getElem!_pos l i h]
  rw [this]
  unfold rdGo
  rw [List.foldl_append]
  rfl
theorem withF_wf {a : Input} (h : a.Wf) (t : Int) {n : Int} (hn : 0 ≤ n ∧ n ≤ 18446744073709551615) : (withF a t n).Wf := by
  unfold withF
  split
  · exact ⟨h.ckind, hn, h.target, h.member, h.side, h.type, h.price, h.qty, h.peak, h.engine⟩
  split
  · exact ⟨h.ckind, h.id, hn, h.member, h.side, h.type, h.price, h.qty, h.peak, h.engine⟩
  split
  · exact ⟨h.ckind, h.id, h.target, by show 0 ≤ n % 4294967296 ∧ n % 4294967296 ≤ 4294967295; omega, h.side, h.type, h.price, h.qty, h.peak, h.engine⟩
  split
  · exact ⟨h.ckind, h.id, h.target, h.member, h.side, h.type, h.price, hn, h.peak, h.engine⟩
  split
  · exact ⟨h.ckind, h.id, h.target, h.member, h.side, h.type, h.price, h.qty, hn, h.engine⟩
  split
  · exact ⟨h.ckind, h.id, h.target, h.member, s64_range _, h.type, h.price, h.qty, h.peak, h.engine⟩
  split
  · exact ⟨h.ckind, h.id, h.target, h.member, h.side, s64_range _, h.price, h.qty, h.peak, h.engine⟩
  split
  · exact ⟨h.ckind, h.id, h.target, h.member, h.side, h.type, s64_range _, h.qty, h.peak, h.engine⟩
  split
  · exact ⟨h.ckind, h.id, h.target, h.member, h.side, h.type, h.price, h.qty, h.peak, s64_range _⟩
  · exact h
theorem rdGo_wf (xs : List Tg) : ∀ (l : List RF) (a : Input), a.Wf → (rdGo xs l a).Wf
  | [], a, h => h
  | f :: l, a, h => rdGo_wf xs l _ (withF_wf h f.tag (numZ_range xs f.tag))
theorem bareF_wf {k : Int} (hk : 1 ≤ k ∧ k ≤ 4) : (bareF k).Wf := by
  have z : (0 : Int) ≤ 0 ∧ (0 : Int) ≤ 18446744073709551615 := by decide
  have z4 : (0 : Int) ≤ 0 ∧ (0 : Int) ≤ 4294967295 := by decide
  have zi : -9223372036854775808 ≤ (0 : Int) ∧ (0 : Int) ≤ 9223372036854775807 := by decide
  unfold bareF
  split
  · exact ⟨zi, z, z, z4, zi, zi, zi, z, z, zi⟩
  · exact ⟨by show _ ≤ k ∧ k ≤ _; omega, z, z, z4, zi, zi, zi, z, z, zi⟩
theorem idx_letter {k : Int} (hk : 1 ≤ k ∧ k ≤ 4) {s : ByteArray} (h : letterF k = s) : idxF s = k := by
  subst h
  have : k = 1 ∨ k = 2 ∨ k = 3 ∨ k = 4 := by omega
  rcases this with rfl | rfl | rfl | rfl <;> decide
theorem idx_none {s : ByteArray} (h : ∀ j : Nat, 1 ≤ j → j < 5 → letterF (j : Int) ≠ s) : idxF s = 0 := by
  have h1 : s ≠ ⟨#[68]⟩ := fun e => h 1 (by decide) (by decide) (by rw [e]; decide)
  have h2 : s ≠ ⟨#[70]⟩ := fun e => h 2 (by decide) (by decide) (by rw [e]; decide)
  have h3 : s ≠ ⟨#[71]⟩ := fun e => h 3 (by decide) (by decide) (by rw [e]; decide)
  have h4 : s ≠ ⟨#[85, 69]⟩ := fun e => h 4 (by decide) (by decide) (by rw [e]; decide)
  unfold idxF
  rw [if_neg h1, if_neg h2, if_neg h3, if_neg h4]
def readRefF (l : List Int) : Input × Int × Int :=
  if (readF l).why ≠ 0 then (input0, (readF l).place, (readF l).why)
  else if idxF (readF l).kind = 0 then (input0, 0, 41)
  else if lineF (rdGo (readF l).tags (refFieldsF (idxF (readF l).kind)) (bareF (idxF (readF l).kind))) = (0, l.take (readF l).size) then (rdGo (readF l).tags (refFieldsF (idxF (readF l).kind)) (bareF (idxF (readF l).kind)), ((readF l).size : Int), 0)
  else (input0, 0, 40)
set_option maxHeartbeats 4000000 in
set_option maxRecDepth 100000 in
theorem refReadLine {w : World} {v : Value} {l : List Int} (hr : RSl byteEnc 1 w [] v l) (hB : isBytes l) (hl : l.length ≤ 140737488355328) :
    Spec Go.Proofs.Tryz.prog 8 #[v] w [] (fun u _ => u = readLineV (readRefF l)) := by
  have hpl := read_place (l := l) hB
  have hts := readF_tags (l := l) (N := 140737488355328) hl
  obtain ⟨R, hR⟩ : ∃ R, R = readF l := ⟨_, rfl⟩
  have hP : readRefF l = if R.why ≠ 0 then (input0, R.place, R.why) else if idxF R.kind = 0 then (input0, 0, 41) else if lineF (rdGo R.tags (refFieldsF (idxF R.kind)) (bareF (idxF R.kind))) = (0, l.take R.size) then (rdGo R.tags (refFieldsF (idxF R.kind)) (bareF (idxF R.kind)), (R.size : Int), 0) else (input0, 0, 40) := by
    rw [hR]
    rfl
  rw [← hR] at hpl hts
  refine Spec.enter (fn := Go.Proofs.Tryz.f8) (n := 86) [v] Go.Proofs.Tryz.func8 (by kernel_rfl) rfl Go.Proofs.Tryz.ntmps8 Go.Proofs.Tryz.results8 rfl (Own.nil _) ?_
  refine JC.rs ?_
  refine Seq.alloc (cs := [_, _, _, _, _, _, _, _, _, _, _]) (hz := z.api_Input) (k := ?_); intro b2
  refine Seq.p rfl Ev.assign ?_
  refine Seq.p rfl Ev.assign ?_
  refine Seq.nil ?_
  refine JC.rs ?_
  refine Seq.p rfl Ev.move ?_
  refine Seq.call rfl (fun w' hw => by have h := refDecode (hr.up hw) hB (by omega); rw [← hR] at h; exact h) (F := _) (by exact List.Perm.refl _) ?_
  rintro _ _ ⟨A19, c19, rfl, rfl⟩
  simp only [List.cons_append, List.nil_append]
  refine Seq.p rfl Ev.move ?_
  refine Seq.p rfl Ev.extract ?_
  refine Seq.p rfl Ev.extract ?_
  refine Seq.p rfl Ev.extract ?_
  refine Seq.p rfl Ev.extract ?_
  refine Seq.p rfl Ev.assign ?_
  refine Seq.p rfl Ev.assign ?_
  refine Seq.p rfl Ev.assign ?_
  refine Seq.p rfl Ev.assign ?_
  refine Seq.nil ?_
  refine JC.seq ?_
  refine JC.rs ?_
  refine Seq.p rfl Ev.move ?_
  refine Seq.p rfl Ev.ne ?_
  refine Seq.nil ?_
  first | refine JC.c (ht := fun c25 => ?_) (hf := fun c25 => ?_) | refine JC.cb (ht := fun c25 => ?_) (hf := fun c25 => ?_)
  · -- then_t25
    refine JC.rs ?_
    refine Seq.p rfl (Ev.buildN [_, _, _, _, _, _, _, _, _, _, _] pl.api_Input z.api_Input) ?_
    refine Seq.p rfl Ev.move ?_
    refine Seq.p rfl Ev.move ?_
    refine Seq.storeN [_, _, _, _, _, _, _, _, _, _, _] sz.api_Input (k := ?_)
    refine Seq.p rfl Ev.assign ?_
    refine Seq.p rfl Ev.assign ?_
    refine Seq.nil ?_
    refine JC.ret ?_
    -- return 0
    show retQ _ _ _ _ _ _ _ _
    refine retB3 ag.api_Input (hp := Part.nil _) (hpost := ?_)
    rw [hP, if_pos c25]
    rfl
  · -- else_t25
    obtain ⟨hpz, hsz⟩ := hpl (Classical.not_not.1 c25)
    rw [hpz]
    refine JC.skip ?_
    refine JC.seq ?_
    refine JC.rs ?_
    refine Seq.p rfl Ev.assign ?_
    refine Seq.nil ?_
    refine JC.blk ?_
    refine JC.loop (α := Nat) (I := fun m e1 H1 => Has [3, 4, 9, 10, 11, 12, 13, 14, 15, 16, 29, 30, 31, 32, 33, 34, 35, 36, 37, 38, 39, 40, 41, 42, 43, 44, 45, 46, 47, 48, 49, 50, 51, 52, 53, 54, 55, 56, 57, 58, 59, 60, 61, 62, 63, 64, 65, 66, 67, 68, 69, 70, 71, 72, 73, 74, 75, 76, 77, 78, 79, 80, 81, 82, 83, 84] [(9, .int .i64 (m : Int))] _ e1 ∧ H1 = _ ∧ (1 ≤ m ∧ m ≤ 5) ∧ ∀ j : Nat, 1 ≤ j → j < m → letterF (j : Int) ≠ R.kind) (μ := fun m => 5 - m) 1 ⟨Has.mk Off.refl (allLook_cons (by repeat (first | exact Look.here | apply Look.there (hne := rfl) | exact Look.const | apply Look.mix rfl | exact Look.arg0 | apply Look.args | exact Look.func)) allLook_nil), rfl, by omega, fun j h1 h2 => by omega⟩ ?_
    rintro m _ _ ⟨⟨u, rfl⟩, rfl, hm, hno⟩; dsimp only [setL]
    refine JC.seq ?_
    refine JC.rs ?_
    refine Seq.p rfl Ev.move ?_
    refine Seq.p rfl Ev.le ?_
    refine Seq.nil ?_
    first | refine JC.c (ht := fun c30 => ?_) (hf := fun c30 => ?_) | refine JC.cb (ht := fun c30 => ?_) (hf := fun c30 => ?_)
    · -- then_t30
      have hm4 : 1 ≤ (m : Int) ∧ (m : Int) ≤ 4 := by omega
      refine JC.skip ?_
      refine JC.seq ?_
      refine JC.blk ?_
      refine JC.seq ?_
      refine JC.rs ?_
      refine Seq.callP rfl (fun w hw => refLetters) ?_
      refine Seq.p rfl Ev.move ?_
      refine Seq.p rfl (Ev.indexS (v := .string (letterF (m : Int))) ar.a5_string sc.string (hv := letters_at hm4)) ?_
      refine Seq.p rfl Ev.move ?_
      refine Seq.p rfl Ev.neStr ?_
      refine Seq.nil ?_
      first | refine JC.c (ht := fun c37 => ?_) (hf := fun c37 => ?_) | refine JC.cb (ht := fun c37 => ?_) (hf := fun c37 => ?_)
      · -- then_t37
        refine JC.exit ?_ -- 1
        refine JC.reg ?_
        refine Seq.p rfl Ev.move ?_
        refine Seq.p rfl (by first | exact Ev.inc | exact Ev.add) ?_
        refine Seq.p rfl Ev.assign ?_
        refine Seq.nil ?_
        exact ⟨m + 1, _, Part.refl _, ⟨Has.mk (by repeat (first | refine Off.upd ?_ rfl | exact Off.mix | refine Off.mix2 ?_ rfl | exact Off.refl)) (allLook_cons (by repeat (first | exact Look.here | apply Look.there (hne := rfl) | exact Look.const | apply Look.mix rfl | exact Look.arg0 | apply Look.args | exact Look.func)) allLook_nil), rfl, by omega, fun j h1 h2 => (Nat.lt_or_eq_of_le (Nat.le_of_lt_succ h2)).elim (fun h => hno j h1 h) (fun h => by rw [h]; exact c37)⟩, by omega⟩
      · -- else_t37
        have hmk : letterF (m : Int) = R.kind := Classical.not_not.1 c37
        have hix := idx_letter hm4 hmk
        have hsm := refFieldsF_small (m : Int)
        have hbw := bareF_wf hm4
        have hrw := rdGo_wf R.tags (refFieldsF (m : Int)) _ hbw
        rw [hix] at hP
        have hfl := refFields (w := w) hm4
        have hfl2 : ∀ w' : World, Spec Go.Proofs.Tryz.prog 26 #[.int .i64 (m : Int)] w' [] (RowPost (refFieldsF (m : Int))) := fun w' => refFields hm4
        obtain ⟨L, hL0⟩ : ∃ L, L = refFieldsF (m : Int) := ⟨_, rfl⟩
        rw [← hL0] at hP hsm hrw hfl2
        have hne : ¬ (m : Int) = 0 := by omega
        refine JC.skip ?_
        refine JC.rs ?_
        refine Seq.p rfl Ev.move ?_
        refine Seq.callP rfl (fun w hw => refBare) ?_
        refine Seq.alloc (cs := [_, _, _, _, _, _, _, _, _, _, _]) (hz := z.api_Input) (k := ?_); intro b10
        refine Seq.storeTo (cs' := (bareF (m : Int)).enc) sz.api_Input (hH := At.z) (hfit := Nat.le_of_ble_eq_true rfl) (hcs := rfl) (k := ?_)
        refine Seq.nil ?_
        refine JC.rs ?_
        refine Seq.p rfl Ev.move ?_
        refine Seq.call rfl (fun w' hw => hfl2 w') (F := _) (by exact List.Perm.refl _) ?_
        rintro _ _ ⟨bl, rfl, rfl⟩
        simp only [List.cons_append, List.nil_append]
        refine Seq.p rfl Ev.assign ?_
        refine Seq.nil ?_
        refine JC.seq ?_
        refine JC.rs ?_
        refine Seq.p rfl Ev.assign ?_
        refine Seq.nil ?_
        refine JC.blk ?_
        refine JC.loop (α := Nat) (I := fun j e1 H1 => ∃ a : Input, Has [12, 13, 14, 42, 43, 44, 45, 46, 47, 48, 49, 50, 51, 52, 53, 54, 55, 56, 57, 58, 59, 60, 61, 62, 63, 64, 65] [(12, .int .i64 (j : Int))] _ e1 ∧ H1 = [.box bl 71 (L.flatMap RF.enc), .box b10 29 a.enc, _, _] ∧ j ≤ L.length ∧ a = rdGo R.tags (L.take j) (bareF (m : Int))) (μ := fun j => L.length - j) 0 ⟨bareF (m : Int), Has.mk Off.refl (allLook_cons (by repeat (first | exact Look.here | apply Look.there (hne := rfl) | exact Look.const | apply Look.mix rfl | exact Look.arg0 | apply Look.args | exact Look.func)) allLook_nil), rfl, by omega, rfl⟩ ?_
        rintro j _ _ ⟨a, ⟨u, rfl⟩, rfl, hj, ha⟩; dsimp only [setL]
        refine JC.seq ?_
        refine JC.rs ?_
        refine Seq.p rfl Ev.move ?_
        refine Seq.p rfl Ev.move ?_
        refine Seq.p rfl (Ev.lenSl sl.sl_bourseref04_field (hr := RAt.box (enc := RF.enc) (sz := 4) (hs := by omega))) ?_
        refine Seq.p rfl Ev.lt ?_
        refine Seq.nil ?_
        first | refine JC.c (ht := fun c45 => ?_) (hf := fun c45 => ?_) | refine JC.cb (ht := fun c45 => ?_) (hf := fun c45 => ?_)
        · -- then_t45
          have hj2 : j < L.length := by omega
          obtain ⟨q, e, hq, _, _, hz⟩ := numV_parts R.tags (L[j]!).tag
          have hnum : ∀ {w' : World} {Cs H : List Chunk} {A : Option Addr} {c : Nat}, RSl Tg.enc 2 w' [] (.slice A R.tags.length c) R.tags → Spec Go.Proofs.Tryz.prog 27 #[.slice A R.tags.length c, .int .i64 (L[j]!).tag] w' [] (fun u _ => u = .tuple #[.int .u64 q, .int .i64 e]) := fun hs => by
            have h := refNumber (tag := (L[j]!).tag) hs
            rw [hq] at h
            exact h
          refine JC.skip ?_
          refine JC.seq ?_
          refine JC.blk ?_
          refine JC.rs ?_
          refine Seq.p rfl Ev.move ?_
          refine Seq.p rfl Ev.move ?_
          refine Seq.p rfl Ev.move ?_
          refine Seq.p rfl (Ev.iaN sl.sl_bourseref04_field (hr := RAt.box (enc := RF.enc) (sz := 4) (hs := by omega))) ?_
          refine Seq.p rfl (Ev.fa fd.bourseref04_field_0) ?_
          refine Seq.p rfl (Ev.ldE sc.int (hr := RAt.box (enc := RF.enc) (sz := 4) (hs := by omega))) ?_
          refine Seq.callP rfl (fun w hw => hnum (Cs := []) (H := []) (RAt.up (RAt.own (enc := Tg.enc) (xs := R.tags) (hs := by omega)) hw)) ?_
          refine Seq.p rfl Ev.move ?_
          refine Seq.p rfl Ev.extract ?_
          refine Seq.p rfl Ev.extract ?_
          refine Seq.p rfl Ev.assign ?_
          refine Seq.p rfl Ev.assign ?_
          refine Seq.nil ?_
          refine JC.anyE 1 mixed ?_
          refine Any.p 1 rfl (by kernel_rfl) (by kernel_rfl) (by kernel_rfl) rfl Ev.move ?_
          refine Any.p 2 rfl (by kernel_rfl) (by kernel_rfl) (by kernel_rfl) rfl Ev.move ?_
          refine Any.p 3 rfl (by kernel_rfl) (by kernel_rfl) (by kernel_rfl) rfl (Ev.iaN sl.sl_bourseref04_field (hr := RAt.box (enc := RF.enc) (sz := 4) (hs := by omega))) ?_
          refine Any.p 4 rfl (by kernel_rfl) (by kernel_rfl) (by kernel_rfl) rfl (Ev.fa fd.bourseref04_field_0) ?_
          refine Any.p 5 rfl (by kernel_rfl) (by kernel_rfl) (by kernel_rfl) rfl (Ev.ldE sc.int (hr := RAt.box (enc := RF.enc) (sz := 4) (hs := by omega))) ?_
          refine Any.p 6 rfl (by kernel_rfl) (by kernel_rfl) (by kernel_rfl) rfl Ev.move ?_
          refine Any.one 0 rfl (by kernel_rfl) ?_
          refine Seq.p rfl (Ev.ldBA (cs := a.enc) ag.api_Input) ?_
          refine Seq.nil ⟨(by repeat (first | exact Part.refl _ | exact Part.nil _ | apply Part.here | apply Part.skip)), ?_⟩
          refine Any.call 7 rfl (by kernel_rfl) (by kernel_rfl) (by kernel_rfl) rfl (fun w hw => refWith) ?_
          refine Any.one 8 rfl (by kernel_rfl) ?_
          refine Seq.storeTo (cs' := (withF a (L[j]!).tag q).enc) sz.api_Input (hH := At.s At.z) (hfit := Nat.le_of_ble_eq_true rfl) (hcs := rfl) (k := ?_)
          refine Seq.nil ⟨(by repeat (first | exact Part.refl _ | exact Part.nil _ | apply Part.here | apply Part.skip)), ?_⟩
          refine Any.done (by kernel_rfl) ?_
          refine JC.reg ?_
          refine Seq.p rfl Ev.move ?_
          refine Seq.p rfl (by first | exact Ev.inc | exact Ev.add) ?_
          refine Seq.p rfl Ev.assign ?_
          refine Seq.nil ?_
          exact ⟨j + 1, _, Part.refl _, ⟨withF a (L[j]!).tag q, Has.mk (by repeat (first | refine Off.upd ?_ rfl | exact Off.mix | refine Off.mix2 ?_ rfl | exact Off.refl)) (allLook_cons (by repeat (first | exact Look.here | apply Look.there (hne := rfl) | exact Look.const | apply Look.mix rfl | exact Look.arg0 | apply Look.args | exact Look.func)) allLook_nil), rfl, by omega, by rw [rdGo_snoc _ _ _ _ hj2, ← ha, hz]; rfl⟩, by omega⟩
        · -- else_t45
          obtain rfl : j = L.length := by omega
          rw [List.take_length] at ha
          rw [← ha] at hP hrw
          have hlb := lineF_bytes a
          have hll := lineF_len a
          obtain ⟨pq, hpl0⟩ : ∃ pq, pq = lineF a := ⟨_, rfl⟩
          rw [← hpl0] at hP hlb hll
          refine JC.exit ?_ -- 2
          refine JC.rs ?_
          refine Seq.p rfl (Ev.ldBA (cs := a.enc) ag.api_Input) ?_
          refine Seq.call rfl (fun w' hw => by have h := refLine (w := w') hrw; rw [← hpl0] at h; exact h) (F := _) (by exact List.Perm.refl _) ?_
          rintro _ _ ⟨A68, c68, rfl, rfl⟩
          simp only [List.cons_append, List.nil_append]
          refine Seq.p rfl Ev.move ?_
          refine Seq.p rfl Ev.extract ?_
          refine Seq.p rfl Ev.extract ?_
          refine Seq.p rfl Ev.assign ?_
          refine Seq.p rfl Ev.assign ?_
          refine Seq.nil ?_
          refine JC.seq ?_
          refine JC.qs mixed (by kernel_rfl) ?_
          refine Qui.p rfl Ev.move ?_
          refine Qui.p rfl Ev.ne ?_
          refine Qui.p rfl Ev.move ?_
          refine Qui.orG (D := [73, 74, 75, 76, 77, 78, 79, 80, 81]) (d := 73) (t := 81) (k := 8) (hn := fun h73 => ?_) (hx := ?_)
          · repeat (first | refine Qui.gn rfl rfl rfl rfl ?_ | refine Qui.gu rfl rfl rfl ?_)
            refine Qui.p rfl Ev.pickT ?_
            exact Qui.nil ⟨(by repeat (first | with_reducible exact Off.refl | refine Off.upd ?_ rfl | exact Off.mix | refine Off.mix2 ?_ rfl)), Look.here⟩
          apply Exists.intro
          refine ⟨fun h73 => ?_, fun u81 => ?_⟩
          · try simp only [decide_eq_true_eq, decide_eq_false_iff_not, Bool.and_eq_true, Bool.or_eq_true, Bool.not_eq_true', Bool.not_eq_false', Bool.or_eq_false_iff, Bool.and_eq_false_imp] at h73
            refine Qui.gy rfl rfl rfl ?_
            refine Qui.p rfl Ev.move ?_
            refine Qui.gy rfl rfl rfl ?_
            refine Qui.p rfl (Ev.strOf (l := pq.2) sl.sl_uint8 it.uint8 st.string (hr := RAt.own (enc := byteEnc) (xs := pq.2))) ?_
            refine Qui.gy rfl rfl rfl ?_
            refine Qui.p rfl Ev.move ?_
            refine Qui.gy rfl rfl rfl ?_
            refine Qui.p rfl Ev.move ?_
            refine Qui.gy rfl rfl rfl ?_
            refine Qui.p rfl (Ev.cut sl.sl_uint8 (hr := hr.r) (l := 0) (h := R.size) (hlo := rfl) (hhi := ⟨_, (by repeat (first | exact Look.here | apply Look.there (hne := rfl) | exact Look.const | apply Look.mix rfl | exact Look.arg0 | apply Look.args | exact Look.func))⟩)) ?_
            refine Qui.gy rfl rfl rfl ?_
            refine Qui.p rfl (Ev.strOf (l := l.take R.size) sl.sl_uint8 it.uint8 st.string (hr := (hr.sub (lo := 0) (hi := R.size) (by omega) hsz).r)) ?_
            refine Qui.gy rfl rfl rfl ?_
            refine Qui.p rfl Ev.neStr ?_
            refine Qui.p rfl Ev.pickF ?_
            exact Qui.nil ⟨(by repeat (first | with_reducible exact Off.refl | refine Off.upd ?_ rfl | exact Off.mix | refine Off.mix2 ?_ rfl)), Look.here⟩
          refine Qui.nil ?_
          first | refine JC.c (ht := fun c81 => ?_) (hf := fun c81 => ?_) | refine JC.cb (ht := fun c81 => ?_) (hf := fun c81 => ?_)
          · -- then_t81
            refine JC.rs ?_
            refine Seq.p rfl (Ev.buildN [_, _, _, _, _, _, _, _, _, _, _] pl.api_Input z.api_Input) ?_
            refine Seq.storeN [_, _, _, _, _, _, _, _, _, _, _] sz.api_Input (k := ?_)
            refine Seq.p rfl Ev.assign ?_
            refine Seq.p rfl Ev.assign ?_
            refine Seq.nil ?_
            refine JC.ret ?_
            -- return 1
            show retQ _ _ _ _ _ _ _ _
            refine retB3 ag.api_Input (hp := Part.nil _) (hpost := ?_)
            rw [hP, if_neg c25, if_neg hne, if_neg (fun h => by rw [h] at c81; simp at c81)]
            rfl
          · -- else_t81
            refine JC.skip ?_
            refine JC.rs ?_
            refine Seq.p rfl (Ev.ldBA (cs := a.enc) ag.api_Input) ?_
            refine Seq.p rfl Ev.move ?_
            refine Seq.storeTo (cs' := a.enc) sz.api_Input (hH := by repeat (first | exact At.z | apply At.s)) (hfit := Nat.le_of_ble_eq_true rfl) (hcs := rfl) (k := ?_)
            refine Seq.p rfl Ev.assign ?_
            refine Seq.p rfl Ev.assign ?_
            refine Seq.nil ?_
            refine JC.ret ?_
            -- return 2
            show retQ _ _ _ _ _ _ _ _
            refine retB3 ag.api_Input (hp := Part.nil _) (hpost := ?_)
            have hq : pq = (0, l.take R.size) := by
              simp only [Bool.or_eq_false_iff, decide_eq_false_iff_not, Classical.not_not] at c81
              have h2 := (strOf_inj hlb (fun n hn => hB n (List.mem_of_mem_take hn))).1 c81.2
              exact Prod.ext c81.1 h2
            rw [hP, if_neg c25, if_neg hne, if_pos hq]
            rfl
    · -- else_t30
      have hix : idxF R.kind = 0 := idx_none (fun j h1 h2 => hno j h1 (by omega))
      refine JC.exit ?_ -- 0
      refine JC.rs ?_
      refine Seq.p rfl (Ev.buildN [_, _, _, _, _, _, _, _, _, _, _] pl.api_Input z.api_Input) ?_
      refine Seq.storeN [_, _, _, _, _, _, _, _, _, _, _] sz.api_Input (k := ?_)
      refine Seq.p rfl Ev.assign ?_
      refine Seq.p rfl Ev.assign ?_
      refine Seq.nil ?_
      refine JC.ret ?_
      -- return 3
      show retQ _ _ _ _ _ _ _ _
      refine retB3 ag.api_Input (hp := Part.nil _) (hpost := ?_)
      rw [hP, if_neg c25, if_pos hix]
      rfl
end Go.Rx
/- Lines read: the document's ReadEvent. -/
namespace Go.Rx
open Go Go.RowKit Go.Lib Go.Proofs.YthpejgmkiomfhaaGreatDoor
set_option linter.unusedVariables false
set_option linter.unusedSimpArgs false
def evRd (xs : List Tg) (l : List RF) (a : Event) : Event := l.foldl (fun a f => withEventF a f.tag (numZ xs f.tag)) a
theorem evRd_snoc (xs : List Tg) (l : List RF) (a : Event) (i : Nat) (h : i < l.length) : evRd xs (l.take (i + 1)) a = withEventF (evRd xs (l.take i) a) l[i]!.tag (numZ xs l[i]!.tag) := by
  have : l.take (i + 1) = l.take i ++ [l[i]!] := by
    rw [List.take_succ_eq_append_getElem h, getElem!_pos l i h]
  rw [this]
  unfold evRd
  rw [List.foldl_append]
  rfl
theorem withEventF_wf {a : Event} (h : a.Wf) (t : Int) {n : Int} (hn : 0 ≤ n ∧ n ≤ 18446744073709551615) : (withEventF a t n).Wf := by
  unfold withEventF
  by_cases h34 : t = 34
  · rw [if_pos h34]; exact ⟨hn, h.id, h.other, h.target, h.member, h.side, h.type, h.price, h.qty, h.peak, h.reason, h.code⟩
  rw [if_neg h34]
  by_cases h11 : t = 11
  · rw [if_pos h11]; exact ⟨h.seq, hn, h.other, h.target, h.member, h.side, h.type, h.price, h.qty, h.peak, h.reason, h.code⟩
  rw [if_neg h11]
  by_cases h41 : t = 41
  · rw [if_pos h41]; exact ⟨h.seq, h.id, h.other, hn, h.member, h.side, h.type, h.price, h.qty, h.peak, h.reason, h.code⟩
  rw [if_neg h41]
  by_cases h37 : t = 37
  · rw [if_pos h37]; exact ⟨h.seq, h.id, hn, h.target, h.member, h.side, h.type, h.price, h.qty, h.peak, h.reason, h.code⟩
  rw [if_neg h37]
  by_cases h1 : t = 1
  · rw [if_pos h1]; exact ⟨h.seq, h.id, h.other, h.target, (show 0 ≤ n % 4294967296 ∧ n % 4294967296 ≤ 4294967295 by omega), h.side, h.type, h.price, h.qty, h.peak, h.reason, h.code⟩
  rw [if_neg h1]
  by_cases h38 : t = 38
  · rw [if_pos h38]; exact ⟨h.seq, h.id, h.other, h.target, h.member, h.side, h.type, h.price, hn, h.peak, h.reason, h.code⟩
  rw [if_neg h38]
  by_cases h210 : t = 210
  · rw [if_pos h210]; exact ⟨h.seq, h.id, h.other, h.target, h.member, h.side, h.type, h.price, h.qty, hn, h.reason, h.code⟩
  rw [if_neg h210]
  by_cases h54 : t = 54
  · rw [if_pos h54]; exact ⟨h.seq, h.id, h.other, h.target, h.member, s64_range _, h.type, h.price, h.qty, h.peak, h.reason, h.code⟩
  rw [if_neg h54]
  by_cases h40 : t = 40
  · rw [if_pos h40]; exact ⟨h.seq, h.id, h.other, h.target, h.member, h.side, s64_range _, h.price, h.qty, h.peak, h.reason, h.code⟩
  rw [if_neg h40]
  by_cases h44 : t = 44
  · rw [if_pos h44]; exact ⟨h.seq, h.id, h.other, h.target, h.member, h.side, h.type, s64_range _, h.qty, h.peak, h.reason, h.code⟩
  rw [if_neg h44]
  by_cases h378 : t = 378
  · rw [if_pos h378]; exact ⟨h.seq, h.id, h.other, h.target, h.member, h.side, h.type, h.price, h.qty, h.peak, s64_range _, h.code⟩
  rw [if_neg h378]
  by_cases h103 : t = 103
  · rw [if_pos h103]; exact ⟨h.seq, h.id, h.other, h.target, h.member, h.side, h.type, h.price, h.qty, h.peak, h.reason, s64_range _⟩
  rw [if_neg h103]
  exact h
theorem evRd_wf (xs : List Tg) : ∀ (l : List RF) (a : Event), a.Wf → (evRd xs l a).Wf
  | [], a, h => h
  | f :: l, a, h => evRd_wf xs l _ (withEventF_wf h f.tag (numZ_range xs f.tag))
theorem ev0_wf (k : Int) : (ev0 k).Wf := by
  have z : (0 : Int) ≤ 0 ∧ (0 : Int) ≤ 18446744073709551615 := by decide
  have z4 : (0 : Int) ≤ 0 ∧ (0 : Int) ≤ 4294967295 := by decide
  have zi : -9223372036854775808 ≤ (0 : Int) ∧ (0 : Int) ≤ 9223372036854775807 := by decide
  exact ⟨z, z, z, z, z4, zi, zi, zi, z, z, zi, zi⟩
theorem dec_five : decS 1 = ⟨#[49]⟩ ∧ decS 2 = ⟨#[50]⟩ ∧ decS 3 = ⟨#[51]⟩ ∧ decS 4 = ⟨#[52]⟩ ∧ decS 5 = ⟨#[53]⟩ := by
  refine ⟨?_, ?_, ?_, ?_, ?_⟩ <;> decide +kernel
theorem kd_dec {m : Nat} (hm : 1 ≤ m ∧ m ≤ 5) {s : ByteArray} (h : decS m = s) : kdF s = (m : Int) := by
  obtain ⟨e1, e2, e3, e4, e5⟩ := dec_five
  subst h
  have : m = 1 ∨ m = 2 ∨ m = 3 ∨ m = 4 ∨ m = 5 := by omega
  rcases this with rfl | rfl | rfl | rfl | rfl
  · rw [e1]; decide
  · rw [e2]; decide
  · rw [e3]; decide
  · rw [e4]; decide
  · rw [e5]; decide
theorem kd_none {s : ByteArray} (h : ∀ j : Nat, 1 ≤ j → j < 6 → decS j ≠ s) : kdF s = 0 := by
  obtain ⟨e1, e2, e3, e4, e5⟩ := dec_five
  have h1 : s ≠ ⟨#[49]⟩ := fun e => h 1 (by decide) (by decide) (by rw [e1, e])
  have h2 : s ≠ ⟨#[50]⟩ := fun e => h 2 (by decide) (by decide) (by rw [e2, e])
  have h3 : s ≠ ⟨#[51]⟩ := fun e => h 3 (by decide) (by decide) (by rw [e3, e])
  have h4 : s ≠ ⟨#[52]⟩ := fun e => h 4 (by decide) (by decide) (by rw [e4, e])
  have h5 : s ≠ ⟨#[53]⟩ := fun e => h 5 (by decide) (by decide) (by rw [e5, e])
  unfold kdF
  rw [if_neg h1, if_neg h2, if_neg h3, if_neg h4, if_neg h5]
def evReadRefF (l : List Int) : Event × Int × Int :=
  if (readF l).why ≠ 0 then (ev0 0, (readF l).place, (readF l).why)
  else if notEv (readF l) ∨ kdF (readF l).tags[1]!.value = 0 then (ev0 0, 0, 41)
  else if evLineF (evRd (readF l).tags (toldRF (kdF (readF l).tags[1]!.value)) (ev0 (kdF (readF l).tags[1]!.value))) = (0, l.take (readF l).size) then (evRd (readF l).tags (toldRF (kdF (readF l).tags[1]!.value)) (ev0 (kdF (readF l).tags[1]!.value)), ((readF l).size : Int), 0)
  else (ev0 0, 0, 40)
set_option maxHeartbeats 4000000 in
set_option maxRecDepth 100000 in
theorem refReadEvent {w : World} {v : Value} {l : List Int} (hr : RSl byteEnc 1 w [] v l) (hB : isBytes l) (hl : l.length ≤ 140737488355328) :
    Spec Go.Proofs.Tryz.prog 10 #[v] w [] (fun u _ => u = evReadV (evReadRefF l)) := by
  have hpl := read_place (l := l) hB
  have hts := readF_tags (l := l) (N := 140737488355328) hl
  obtain ⟨R, hR⟩ : ∃ R, R = readF l := ⟨_, rfl⟩
  have hP : evReadRefF l = if R.why ≠ 0 then (ev0 0, R.place, R.why) else if notEv R ∨ kdF R.tags[1]!.value = 0 then (ev0 0, 0, 41) else if evLineF (evRd R.tags (toldRF (kdF R.tags[1]!.value)) (ev0 (kdF R.tags[1]!.value))) = (0, l.take R.size) then (evRd R.tags (toldRF (kdF R.tags[1]!.value)) (ev0 (kdF R.tags[1]!.value)), (R.size : Int), 0) else (ev0 0, 0, 40) := by
    rw [hR]
    rfl
  rw [← hR] at hpl hts
  refine Spec.enter (fn := Go.Proofs.Tryz.f10) (n := 104) [v] Go.Proofs.Tryz.func10 (by kernel_rfl) rfl Go.Proofs.Tryz.ntmps10 Go.Proofs.Tryz.results10 rfl (Own.nil _) ?_
  refine JC.rs ?_
  refine Seq.alloc (cs := [_, _, _, _, _, _, _, _, _, _, _, _, _]) (hz := z.api_Event) (k := ?_); intro b2
  refine Seq.p rfl Ev.assign ?_
  refine Seq.p rfl Ev.assign ?_
  refine Seq.nil ?_
  refine JC.rs ?_
  refine Seq.p rfl Ev.move ?_
  refine Seq.call rfl (fun w' hw => by have h := refDecode (hr.up hw) hB (by omega); rw [← hR] at h; exact h) (F := _) (by exact List.Perm.refl _) ?_
  rintro _ _ ⟨A19, c19, rfl, rfl⟩
  simp only [List.cons_append, List.nil_append]
  refine Seq.p rfl Ev.move ?_
  refine Seq.p rfl Ev.extract ?_
  refine Seq.p rfl Ev.extract ?_
  refine Seq.p rfl Ev.extract ?_
  refine Seq.p rfl Ev.extract ?_
  refine Seq.p rfl Ev.assign ?_
  refine Seq.p rfl Ev.assign ?_
  refine Seq.p rfl Ev.assign ?_
  refine Seq.p rfl Ev.assign ?_
  refine Seq.nil ?_
  refine JC.seq ?_
  refine JC.rs ?_
  refine Seq.p rfl Ev.move ?_
  refine Seq.p rfl Ev.ne ?_
  refine Seq.nil ?_
  first | refine JC.c (ht := fun c25 => ?_) (hf := fun c25 => ?_) | refine JC.cb (ht := fun c25 => ?_) (hf := fun c25 => ?_)
  · -- then_t25
    refine JC.rs ?_
    refine Seq.p rfl (Ev.buildN [_, _, _, _, _, _, _, _, _, _, _, _, _] pl.api_Event z.api_Event) ?_
    refine Seq.p rfl Ev.move ?_
    refine Seq.p rfl Ev.move ?_
    refine Seq.storeN [_, _, _, _, _, _, _, _, _, _, _, _, _] sz.api_Event (k := ?_)
    refine Seq.p rfl Ev.assign ?_
    refine Seq.p rfl Ev.assign ?_
    refine Seq.nil ?_
    refine JC.ret ?_
    -- return 0
    show retQ _ _ _ _ _ _ _ _
    refine retB3 ag.api_Event (hp := Part.nil _) (hpost := ?_)
    rw [hP, if_pos c25]
    rfl
  · -- else_t25
    obtain ⟨hpz, hsz⟩ := hpl (Classical.not_not.1 c25)
    rw [hpz]
    refine JC.skip ?_
    refine JC.seq ?_
    refine JC.rs ?_
    refine Seq.p rfl Ev.move ?_
    refine Seq.p rfl Ev.neStr ?_
    refine Seq.p rfl Ev.move ?_
    refine Seq.orG (D := [31, 32, 33, 34, 35]) (d := 31) (t := 35) (k := 4) (hn := fun h31 => ?_) (hx := ?_)
    · repeat (first | refine Seq.gn rfl rfl rfl rfl ?_ | refine Seq.gu rfl rfl rfl ?_)
      refine Seq.p rfl Ev.pickT ?_
      exact Seq.nil ⟨rfl, (by repeat (first | with_reducible exact Off.refl | refine Off.upd ?_ rfl | exact Off.mix | refine Off.mix2 ?_ rfl)), Look.here⟩
    apply Exists.intro
    refine ⟨fun h31 => ?_, fun u35 => ?_⟩
    · try simp only [decide_eq_true_eq, decide_eq_false_iff_not, Bool.and_eq_true, Bool.or_eq_true, Bool.not_eq_true', Bool.not_eq_false', Bool.or_eq_false_iff, Bool.and_eq_false_imp] at h31
      refine Seq.gy rfl rfl rfl ?_
      refine Seq.p rfl Ev.move ?_
      refine Seq.gy rfl rfl rfl ?_
      refine Seq.p rfl (Ev.lenSl sl.sl_api_Tag (hr := RAt.own (enc := Tg.enc) (xs := R.tags) (hs := by omega))) ?_
      refine Seq.gy rfl rfl rfl ?_
      refine Seq.p rfl Ev.lt ?_
      refine Seq.p rfl Ev.pickF ?_
      exact Seq.nil ⟨rfl, (by repeat (first | with_reducible exact Off.refl | refine Off.upd ?_ rfl | exact Off.mix | refine Off.mix2 ?_ rfl)), Look.here⟩
    refine Seq.p rfl Ev.move ?_
    refine Seq.orG (D := [36, 37, 38, 39, 40, 41, 42]) (d := 36) (t := 42) (k := 6) (hn := fun h36 => ?_) (hx := ?_)
    · repeat (first | refine Seq.gn rfl rfl rfl rfl ?_ | refine Seq.gu rfl rfl rfl ?_)
      refine Seq.p rfl Ev.pickT ?_
      exact Seq.nil ⟨rfl, (by repeat (first | with_reducible exact Off.refl | refine Off.upd ?_ rfl | exact Off.mix | refine Off.mix2 ?_ rfl)), Look.here⟩
    apply Exists.intro
    refine ⟨fun h36 => ?_, fun u42 => ?_⟩
    · try simp only [decide_eq_true_eq, decide_eq_false_iff_not, Bool.and_eq_true, Bool.or_eq_true, Bool.not_eq_true', Bool.not_eq_false', Bool.or_eq_false_iff, Bool.and_eq_false_imp] at h36
      have h36b := h36.2
      refine Seq.gy rfl rfl rfl ?_
      refine Seq.p rfl Ev.move ?_
      refine Seq.gy rfl rfl rfl ?_
      refine Seq.p rfl (Ev.iaN sl.sl_api_Tag (i := 1) (hr := RAt.own (enc := Tg.enc) (xs := R.tags) (hs := by omega))) ?_
      refine Seq.gy rfl rfl rfl ?_
      refine Seq.p rfl (Ev.fa fd.api_Tag_0) ?_
      refine Seq.gy rfl rfl rfl ?_
      refine Seq.p rfl (Ev.ldE sc.int (i := 1) (off := 0) (hr := RAt.own (enc := Tg.enc) (xs := R.tags) (hs := by omega))) ?_
      refine Seq.gy rfl rfl rfl ?_
      refine Seq.p rfl Ev.ne ?_
      refine Seq.p rfl Ev.pickF ?_
      exact Seq.nil ⟨rfl, (by repeat (first | with_reducible exact Off.refl | refine Off.upd ?_ rfl | exact Off.mix | refine Off.mix2 ?_ rfl)), Look.here⟩
    refine Seq.nil ?_
    first | refine JC.c (ht := fun c42 => ?_) (hf := fun c42 => ?_) | refine JC.cb (ht := fun c42 => ?_) (hf := fun c42 => ?_)
    · -- then_t42
      have hne : notEv R := by
        unfold notEv
        simp only [Bool.or_eq_true, decide_eq_true_eq] at c42
        rcases c42 with (h | h) | h
        · exact .inl h
        · exact .inr (.inl (by omega))
        · exact .inr (.inr h)
      refine JC.rs ?_
      refine Seq.p rfl (Ev.buildN [_, _, _, _, _, _, _, _, _, _, _, _, _] pl.api_Event z.api_Event) ?_
      refine Seq.storeN [_, _, _, _, _, _, _, _, _, _, _, _, _] sz.api_Event (k := ?_)
      refine Seq.p rfl Ev.assign ?_
      refine Seq.p rfl Ev.assign ?_
      refine Seq.nil ?_
      refine JC.ret ?_
      -- return 1
      show retQ _ _ _ _ _ _ _ _
      refine retB3 ag.api_Event (hp := Part.nil _) (hpost := ?_)
      rw [hP, if_neg c25, if_pos (.inl hne)]
      rfl
    · -- else_t42
      have hne : ¬ notEv R := by
        unfold notEv
        simp only [Bool.or_eq_false_iff, decide_eq_false_iff_not] at c42
        rintro (h | h | h)
        · exact c42.1.1 h
        · exact c42.1.2 (by omega)
        · exact c42.2 h
      have hlen2 : ¬ R.tags.length < 2 := fun h => hne (.inr (.inl h))
      refine JC.skip ?_
      refine JC.seq ?_
      refine JC.rs ?_
      refine Seq.p rfl Ev.assign ?_
      refine Seq.nil ?_
      refine JC.blk ?_
      refine JC.loop (α := Nat) (I := fun m e1 H1 => Has [3, 4, 9, 10, 11, 12, 13, 14, 15, 16, 44, 45, 46, 47, 48, 49, 50, 51, 52, 53, 54, 55, 56, 57, 58, 59, 60, 61, 62, 63, 64, 65, 66, 67, 68, 69, 70, 71, 72, 73, 74, 75, 76, 77, 78, 79, 80, 81, 82, 83, 84, 85, 86, 87, 88, 89, 90, 91, 92, 93, 94, 95, 96, 97, 98, 99, 100, 101, 102] [(9, .int .i64 (m : Int))] _ e1 ∧ H1 = _ ∧ (1 ≤ m ∧ m ≤ 6) ∧ ∀ j : Nat, 1 ≤ j → j < m → decS j ≠ R.tags[1]!.value) (μ := fun m => 6 - m) 1 ⟨Has.mk Off.refl (allLook_cons (by repeat (first | exact Look.here | apply Look.there (hne := rfl) | exact Look.const | apply Look.mix rfl | exact Look.arg0 | apply Look.args | exact Look.func)) allLook_nil), rfl, by omega, fun j h1 h2 => by omega⟩ ?_
      rintro m _ _ ⟨⟨u, rfl⟩, rfl, hm, hno⟩; dsimp only [setL]
      refine JC.seq ?_
      refine JC.rs ?_
      refine Seq.p rfl Ev.move ?_
      refine Seq.p rfl Ev.le ?_
      refine Seq.nil ?_
      first | refine JC.c (ht := fun c45 => ?_) (hf := fun c45 => ?_) | refine JC.cb (ht := fun c45 => ?_) (hf := fun c45 => ?_)
      · -- then_t45
        have hm4 : 1 ≤ (m : Int) ∧ (m : Int) ≤ 5 := by omega
        refine JC.skip ?_
        refine JC.seq ?_
        refine JC.blk ?_
        refine JC.seq ?_
        refine JC.qs mixed (by kernel_rfl) ?_
        refine Qui.p rfl Ev.move ?_
        refine Qui.p rfl (Ev.convU64 it.int it.uint64) ?_
        refine Qui.call rfl (fun w hw => refDecimal (n := m) (by omega)) ?_
        refine Qui.p rfl Ev.move ?_
        refine Qui.p rfl (Ev.iaN sl.sl_api_Tag (i := 1) (hr := RAt.own (enc := Tg.enc) (xs := R.tags) (hs := by omega))) ?_
        refine Qui.p rfl (Ev.fa fd.api_Tag_1) ?_
        refine Qui.p rfl (Ev.ldE sc.string (i := 1) (off := 1) (hr := RAt.own (enc := Tg.enc) (xs := R.tags) (hs := by omega))) ?_
        refine Qui.p rfl Ev.neStr ?_
        refine Qui.nil ?_
        first | refine JC.c (ht := fun c55 => ?_) (hf := fun c55 => ?_) | refine JC.cb (ht := fun c55 => ?_) (hf := fun c55 => ?_)
        · -- then_t55
          refine JC.exit ?_ -- 1
          refine JC.reg ?_
          refine Seq.p rfl Ev.move ?_
          refine Seq.p rfl (by first | exact Ev.inc | exact Ev.add) ?_
          refine Seq.p rfl Ev.assign ?_
          refine Seq.nil ?_
          exact ⟨m + 1, _, Part.refl _, ⟨Has.mk (by repeat (first | refine Off.upd ?_ rfl | exact Off.mix | refine Off.mix2 ?_ rfl | exact Off.refl)) (allLook_cons (by repeat (first | exact Look.here | apply Look.there (hne := rfl) | exact Look.const | apply Look.mix rfl | exact Look.arg0 | apply Look.args | exact Look.func)) allLook_nil), rfl, by omega, fun j h1 h2 => (Nat.lt_or_eq_of_le (Nat.le_of_lt_succ h2)).elim (fun h => hno j h1 h) (fun h => by rw [h]; exact c55)⟩, by omega⟩
        · -- else_t55
          have hmk : decS m = R.tags[1]!.value := Classical.not_not.1 c55
          have hix := kd_dec (by omega) hmk
          have hsm := toldRF_small (m : Int)
          have hrw := evRd_wf R.tags (toldRF (m : Int)) _ (ev0_wf (m : Int))
          rw [hix] at hP
          have hfl2 : ∀ w' : World, Spec Go.Proofs.Tryz.prog 33 #[.int .i64 (m : Int)] w' [] (RowPost (toldRF (m : Int))) := fun w' => refTold hm4
          obtain ⟨L, hL0⟩ : ∃ L, L = toldRF (m : Int) := ⟨_, rfl⟩
          rw [← hL0] at hP hsm hrw hfl2
          have hno2 : ¬ (notEv R ∨ (m : Int) = 0) := fun h => h.elim hne (by omega)
          refine JC.skip ?_
          refine JC.rs ?_
          refine Seq.p rfl Ev.move ?_
          refine Seq.p rfl (Ev.buildN (ev0 (m : Int)).enc pl.api_Event z.api_Event) ?_
          refine Seq.alloc (cs := [_, _, _, _, _, _, _, _, _, _, _, _, _]) (hz := z.api_Event) (k := ?_); intro b10
          refine Seq.storeTo (cs' := (ev0 (m : Int)).enc) sz.api_Event (hH := At.z) (hfit := Nat.le_of_ble_eq_true rfl) (hcs := rfl) (k := ?_)
          refine Seq.nil ?_
          refine JC.rs ?_
          refine Seq.p rfl Ev.move ?_
          refine Seq.call rfl (fun w' hw => hfl2 w') (F := _) (by exact List.Perm.refl _) ?_
          rintro _ _ ⟨bl, rfl, rfl⟩
          simp only [List.cons_append, List.nil_append]
          refine Seq.p rfl Ev.assign ?_
          refine Seq.nil ?_
          refine JC.seq ?_
          refine JC.rs ?_
          refine Seq.p rfl Ev.assign ?_
          refine Seq.nil ?_
          refine JC.blk ?_
          refine JC.loop (α := Nat) (I := fun j e1 H1 => ∃ a : Event, Has [12, 13, 14, 60, 61, 62, 63, 64, 65, 66, 67, 68, 69, 70, 71, 72, 73, 74, 75, 76, 77, 78, 79, 80, 81, 82, 83] [(12, .int .i64 (j : Int))] _ e1 ∧ H1 = [.box bl 71 (L.flatMap RF.enc), .box b10 34 a.enc, _, _] ∧ j ≤ L.length ∧ a = evRd R.tags (L.take j) (ev0 (m : Int))) (μ := fun j => L.length - j) 0 ⟨ev0 (m : Int), Has.mk Off.refl (allLook_cons (by repeat (first | exact Look.here | apply Look.there (hne := rfl) | exact Look.const | apply Look.mix rfl | exact Look.arg0 | apply Look.args | exact Look.func)) allLook_nil), rfl, by omega, rfl⟩ ?_
          rintro j _ _ ⟨a, ⟨u, rfl⟩, rfl, hj, ha⟩; dsimp only [setL]
          refine JC.seq ?_
          refine JC.rs ?_
          refine Seq.p rfl Ev.move ?_
          refine Seq.p rfl Ev.move ?_
          refine Seq.p rfl (Ev.lenSl sl.sl_bourseref04_field (hr := RAt.box (enc := RF.enc) (sz := 4) (hs := by omega))) ?_
          refine Seq.p rfl Ev.lt ?_
          refine Seq.nil ?_
          first | refine JC.c (ht := fun c63 => ?_) (hf := fun c63 => ?_) | refine JC.cb (ht := fun c63 => ?_) (hf := fun c63 => ?_)
          · -- then_t63
            have hj2 : j < L.length := by omega
            obtain ⟨q, e, hq, _, _, hz⟩ := numV_parts R.tags (L[j]!).tag
            have hnum : ∀ {w' : World} {A : Option Addr} {c : Nat}, RSl Tg.enc 2 w' [] (.slice A R.tags.length c) R.tags → Spec Go.Proofs.Tryz.prog 27 #[.slice A R.tags.length c, .int .i64 (L[j]!).tag] w' [] (fun u _ => u = .tuple #[.int .u64 q, .int .i64 e]) := fun hs => by
              have h := refNumber (tag := (L[j]!).tag) hs
              rw [hq] at h
              exact h
            refine JC.skip ?_
            refine JC.seq ?_
            refine JC.blk ?_
            refine JC.rs ?_
            refine Seq.p rfl Ev.move ?_
            refine Seq.p rfl Ev.move ?_
            refine Seq.p rfl Ev.move ?_
            refine Seq.p rfl (Ev.iaN sl.sl_bourseref04_field (hr := RAt.box (enc := RF.enc) (sz := 4) (hs := by omega))) ?_
            refine Seq.p rfl (Ev.fa fd.bourseref04_field_0) ?_
            refine Seq.p rfl (Ev.ldE sc.int (hr := RAt.box (enc := RF.enc) (sz := 4) (hs := by omega))) ?_
            refine Seq.callP rfl (fun w hw => hnum (RAt.up (RAt.own (enc := Tg.enc) (xs := R.tags) (hs := by omega)) hw)) ?_
            refine Seq.p rfl Ev.move ?_
            refine Seq.p rfl Ev.extract ?_
            refine Seq.p rfl Ev.extract ?_
            refine Seq.p rfl Ev.assign ?_
            refine Seq.p rfl Ev.assign ?_
            refine Seq.nil ?_
            refine JC.anyE 1 mixed ?_
            refine Any.p 1 rfl (by kernel_rfl) (by kernel_rfl) (by kernel_rfl) rfl Ev.move ?_
            refine Any.p 2 rfl (by kernel_rfl) (by kernel_rfl) (by kernel_rfl) rfl Ev.move ?_
            refine Any.p 3 rfl (by kernel_rfl) (by kernel_rfl) (by kernel_rfl) rfl (Ev.iaN sl.sl_bourseref04_field (hr := RAt.box (enc := RF.enc) (sz := 4) (hs := by omega))) ?_
            refine Any.p 4 rfl (by kernel_rfl) (by kernel_rfl) (by kernel_rfl) rfl (Ev.fa fd.bourseref04_field_0) ?_
            refine Any.p 5 rfl (by kernel_rfl) (by kernel_rfl) (by kernel_rfl) rfl (Ev.ldE sc.int (hr := RAt.box (enc := RF.enc) (sz := 4) (hs := by omega))) ?_
            refine Any.p 6 rfl (by kernel_rfl) (by kernel_rfl) (by kernel_rfl) rfl Ev.move ?_
            refine Any.one 0 rfl (by kernel_rfl) ?_
            refine Seq.p rfl (Ev.ldBA (cs := a.enc) ag.api_Event) ?_
            refine Seq.nil ⟨(by repeat (first | exact Part.refl _ | exact Part.nil _ | apply Part.here | apply Part.skip)), ?_⟩
            refine Any.call 7 rfl (by kernel_rfl) (by kernel_rfl) (by kernel_rfl) rfl (fun w hw => refWithEvent) ?_
            refine Any.one 8 rfl (by kernel_rfl) ?_
            refine Seq.storeTo (cs' := (withEventF a (L[j]!).tag q).enc) sz.api_Event (hH := At.s At.z) (hfit := Nat.le_of_ble_eq_true rfl) (hcs := rfl) (k := ?_)
            refine Seq.nil ⟨(by repeat (first | exact Part.refl _ | exact Part.nil _ | apply Part.here | apply Part.skip)), ?_⟩
            refine Any.done (by kernel_rfl) ?_
            refine JC.reg ?_
            refine Seq.p rfl Ev.move ?_
            refine Seq.p rfl (by first | exact Ev.inc | exact Ev.add) ?_
            refine Seq.p rfl Ev.assign ?_
            refine Seq.nil ?_
            exact ⟨j + 1, _, Part.refl _, ⟨withEventF a (L[j]!).tag q, Has.mk (by repeat (first | refine Off.upd ?_ rfl | exact Off.mix | refine Off.mix2 ?_ rfl | exact Off.refl)) (allLook_cons (by repeat (first | exact Look.here | apply Look.there (hne := rfl) | exact Look.const | apply Look.mix rfl | exact Look.arg0 | apply Look.args | exact Look.func)) allLook_nil), rfl, by omega, by rw [evRd_snoc _ _ _ _ hj2, ← ha, hz]; rfl⟩, by omega⟩
          · -- else_t63
            obtain rfl : j = L.length := by omega
            rw [List.take_length] at ha
            rw [← ha] at hP hrw
            have hlb := evLineF_bytes a
            have hll := evLineF_len a
            obtain ⟨pq, hpl0⟩ : ∃ pq, pq = evLineF a := ⟨_, rfl⟩
            rw [← hpl0] at hP hlb hll
            refine JC.exit ?_ -- 2
            refine JC.rs ?_
            refine Seq.p rfl (Ev.ldBA (cs := a.enc) ag.api_Event) ?_
            refine Seq.call rfl (fun w' hw => by have h := refEventLine (w := w') hrw; rw [← hpl0] at h; exact h) (F := _) (by exact List.Perm.refl _) ?_
            rintro _ _ ⟨A86, c86, rfl, rfl⟩
            simp only [List.cons_append, List.nil_append]
            refine Seq.p rfl Ev.move ?_
            refine Seq.p rfl Ev.extract ?_
            refine Seq.p rfl Ev.extract ?_
            refine Seq.p rfl Ev.assign ?_
            refine Seq.p rfl Ev.assign ?_
            refine Seq.nil ?_
            refine JC.seq ?_
            refine JC.qs mixed (by kernel_rfl) ?_
            refine Qui.p rfl Ev.move ?_
            refine Qui.p rfl Ev.ne ?_
            refine Qui.p rfl Ev.move ?_
            refine Qui.orG (D := [91, 92, 93, 94, 95, 96, 97, 98, 99]) (d := 91) (t := 99) (k := 8) (hn := fun h91 => ?_) (hx := ?_)
            · repeat (first | refine Qui.gn rfl rfl rfl rfl ?_ | refine Qui.gu rfl rfl rfl ?_)
              refine Qui.p rfl Ev.pickT ?_
              exact Qui.nil ⟨(by repeat (first | with_reducible exact Off.refl | refine Off.upd ?_ rfl | exact Off.mix | refine Off.mix2 ?_ rfl)), Look.here⟩
            apply Exists.intro
            refine ⟨fun h91 => ?_, fun u99 => ?_⟩
            · try simp only [decide_eq_true_eq, decide_eq_false_iff_not, Bool.and_eq_true, Bool.or_eq_true, Bool.not_eq_true', Bool.not_eq_false', Bool.or_eq_false_iff, Bool.and_eq_false_imp] at h91
              refine Qui.gy rfl rfl rfl ?_
              refine Qui.p rfl Ev.move ?_
              refine Qui.gy rfl rfl rfl ?_
              refine Qui.p rfl (Ev.strOf (l := pq.2) sl.sl_uint8 it.uint8 st.string (hr := RAt.own (enc := byteEnc) (xs := pq.2))) ?_
              refine Qui.gy rfl rfl rfl ?_
              refine Qui.p rfl Ev.move ?_
              refine Qui.gy rfl rfl rfl ?_
              refine Qui.p rfl Ev.move ?_
              refine Qui.gy rfl rfl rfl ?_
              refine Qui.p rfl (Ev.cut sl.sl_uint8 (hr := hr.r) (l := 0) (h := R.size) (hlo := rfl) (hhi := ⟨_, (by repeat (first | exact Look.here | apply Look.there (hne := rfl) | exact Look.const | apply Look.mix rfl | exact Look.arg0 | apply Look.args | exact Look.func))⟩)) ?_
              refine Qui.gy rfl rfl rfl ?_
              refine Qui.p rfl (Ev.strOf (l := l.take R.size) sl.sl_uint8 it.uint8 st.string (hr := (hr.sub (lo := 0) (hi := R.size) (by omega) hsz).r)) ?_
              refine Qui.gy rfl rfl rfl ?_
              refine Qui.p rfl Ev.neStr ?_
              refine Qui.p rfl Ev.pickF ?_
              exact Qui.nil ⟨(by repeat (first | with_reducible exact Off.refl | refine Off.upd ?_ rfl | exact Off.mix | refine Off.mix2 ?_ rfl)), Look.here⟩
            refine Qui.nil ?_
            first | refine JC.c (ht := fun c99 => ?_) (hf := fun c99 => ?_) | refine JC.cb (ht := fun c99 => ?_) (hf := fun c99 => ?_)
            · -- then_t99
              refine JC.rs ?_
              refine Seq.p rfl (Ev.buildN [_, _, _, _, _, _, _, _, _, _, _, _, _] pl.api_Event z.api_Event) ?_
              refine Seq.storeN [_, _, _, _, _, _, _, _, _, _, _, _, _] sz.api_Event (k := ?_)
              refine Seq.p rfl Ev.assign ?_
              refine Seq.p rfl Ev.assign ?_
              refine Seq.nil ?_
              refine JC.ret ?_
              -- return 2
              show retQ _ _ _ _ _ _ _ _
              refine retB3 ag.api_Event (hp := Part.nil _) (hpost := ?_)
              rw [hP, if_neg c25, if_neg hno2, if_neg (fun h => by rw [h] at c99; simp at c99)]
              rfl
            · -- else_t99
              refine JC.skip ?_
              refine JC.rs ?_
              refine Seq.p rfl (Ev.ldBA (cs := a.enc) ag.api_Event) ?_
              refine Seq.p rfl Ev.move ?_
              refine Seq.storeTo (cs' := a.enc) sz.api_Event (hH := by repeat (first | exact At.z | apply At.s)) (hfit := Nat.le_of_ble_eq_true rfl) (hcs := rfl) (k := ?_)
              refine Seq.p rfl Ev.assign ?_
              refine Seq.p rfl Ev.assign ?_
              refine Seq.nil ?_
              refine JC.ret ?_
              -- return 3
              show retQ _ _ _ _ _ _ _ _
              refine retB3 ag.api_Event (hp := Part.nil _) (hpost := ?_)
              have hq : pq = (0, l.take R.size) := by
                simp only [Bool.or_eq_false_iff, decide_eq_false_iff_not, Classical.not_not] at c99
                have h2 := (strOf_inj hlb (fun n hn => hB n (List.mem_of_mem_take hn))).1 c99.2
                exact Prod.ext c99.1 h2
              rw [hP, if_neg c25, if_neg hno2, if_pos hq]
              rfl
      · -- else_t45
        have hix : kdF R.tags[1]!.value = 0 := kd_none (fun j h1 h2 => hno j h1 (by omega))
        refine JC.exit ?_ -- 0
        refine JC.rs ?_
        refine Seq.p rfl (Ev.buildN [_, _, _, _, _, _, _, _, _, _, _, _, _] pl.api_Event z.api_Event) ?_
        refine Seq.storeN [_, _, _, _, _, _, _, _, _, _, _, _, _] sz.api_Event (k := ?_)
        refine Seq.p rfl Ev.assign ?_
        refine Seq.p rfl Ev.assign ?_
        refine Seq.nil ?_
        refine JC.ret ?_
        -- return 4
        show retQ _ _ _ _ _ _ _ _
        refine retB3 ag.api_Event (hp := Part.nil _) (hpost := ?_)
        rw [hP, if_neg c25, if_pos (.inr hix)]
        rfl
end Go.Rx
/- What is told is read back: plain. -/
namespace Go.Rx
open Go Go.RowKit Go.Lib Go.Proofs.YthpejgmkiomfhaaGreatDoor
set_option linter.unusedVariables false
set_option linter.unusedSimpArgs false
def pT (p : Int × Int) : Tg := ⟨p.1, decS p.2.toNat⟩
def pRng (P : List (Int × Int)) : Prop := ∀ p ∈ P, 0 ≤ p.2 ∧ p.2 ≤ 18446744073709551615
theorem numT_of {P : List (Int × Int)} (hn : (P.map (·.1)).Nodup) (hr : pRng P) {p : Int × Int} (hp : p ∈ P) : numT (P.map pT) p.1 = some p.2.toNat := by
  have hf : (P.map pT).find? (fun t => decide (t.tag = p.1)) = some (pT p) := by
    clear hr
    induction P with
    | nil => cases hp
    | cons q P ih =>
      rw [List.map_cons, List.nodup_cons] at hn
      rw [List.map_cons, List.find?_cons]
      rcases List.mem_cons.1 hp with rfl | hp
      · rw [decide_eq_true (show (pT p).tag = p.1 from rfl)]
      · have hne : ¬ (pT q).tag = p.1 := fun h => hn.1 (by
          have h2 : q.1 = p.1 := h
          rw [h2]
          exact List.mem_map.2 ⟨p, hp, rfl⟩)
        rw [decide_eq_false hne]
        exact ih hn.2 hp
  unfold numT valueF
  rw [hf]
  have := hr p hp
  exact numOf_dec (by omega)
theorem numZ_of {P : List (Int × Int)} (hn : (P.map (·.1)).Nodup) (hr : pRng P) {p : Int × Int} (hp : p ∈ P) : numZ (P.map pT) p.1 = p.2 := by
  unfold numZ
  rw [numT_of hn hr hp]
  have := hr p hp
  show ((p.2.toNat : Nat) : Int) = p.2
  omega
theorem iput_new {m : List (Int × Int)} {k v : Int} (h : k ∉ m.map (·.1)) : iput m k v = m ++ [(k, v)] := by
  induction m with
  | nil => rfl
  | cons a m ih =>
    obtain ⟨a1, a2⟩ := a
    rw [List.map_cons, List.mem_cons, not_or] at h
    unfold iput
    rw [if_neg h.1, ih h.2]
    rfl
theorem foldl_iput (P m : List (Int × Int)) (hn : ((m ++ P).map (·.1)).Nodup) : P.foldl (fun m p => iput m p.1 p.2) m = m ++ P := by
  induction P generalizing m with
  | nil => simp
  | cons p P ih =>
    have h1 : p.1 ∉ m.map (·.1) := fun h => by
      rw [List.map_append, List.nodup_append] at hn
      exact hn.2.2 _ h _ (by simp) rfl
    rw [List.foldl_cons, iput_new h1, ih _ (by simpa using hn)]
    simp
theorem valued_of {P : List (Int × Int)} (hn : (P.map (·.1)).Nodup) (hr : pRng P) : valuedF (P.map pT) = P := by
  have key : ∀ (Q m : List (Int × Int)), (∀ p ∈ Q, p ∈ P) → (Q.map pT).foldl (valStep (P.map pT)) m = Q.foldl (fun m p => iput m p.1 p.2) m := by
    intro Q
    induction Q with
    | nil => intro m _; rfl
    | cons q Q ih =>
      intro m hq
      have hqm := hq q (List.mem_cons_self ..)
      rw [List.map_cons, List.foldl_cons, List.foldl_cons, ih _ (fun p hp => hq p (List.mem_cons_of_mem _ hp))]
      congr 1
      unfold valStep
      rw [show (pT q).tag = q.1 from rfl, numT_of hn hr hqm]
      have := hr q hqm
      show iput m q.1 ((q.2.toNat : Nat) : Int) = _
      congr 1
      omega
  have h := key P [] (fun p hp => hp)
  unfold valuedF valG
  rw [h, foldl_iput P [] (by simpa using hn)]
  rfl
theorem nums_of {fs : List Fld} (hn : (fs.map (·.tag)).Nodup) : numsF fs = fs.map fun f => (f.tag, f.num) := by
  have h := foldl_iput (fs.map fun f => (f.tag, f.num)) [] (by simpa [List.map_map, Function.comp_def] using hn)
  rw [List.foldl_map] at h
  unfold numsF
  rw [h]
  rfl
/-! ### inputs -/
theorem row_nodup (k : Int) : ((refFieldsF k).map (·.tag)).Nodup := by
  unfold refFieldsF
  (repeat' split) <;> decide
theorem valsGo_fst {i : Input} : ∀ (l : List RF) (s s' : Input × List Int), valsGo i l s = some s' → s'.1 = l.foldl (fun a f => withF a f.tag (inValF i f.tag).1) s.1
  | [], s, s', h => by
    simp only [valsGo, Option.some.injEq] at h
    subst h
    rfl
  | f :: r, s, s', h => by
    simp only [valsGo] at h
    cases hs : stepF i f s with
    | none => rw [hs] at h; cases h
    | some q =>
      rw [hs] at h
      have h2 := valsGo_fst r q s' h
      unfold stepF at hs
      split at hs
      · cases hs
      · split at hs
        · cases hs
        · simp only [Option.some.injEq] at hs
          subst hs
          exact h2
def inP (i : Input) : List (Int × Int) := (refFieldsF (nameF i)).map fun f => (f.tag, (inValF i f.tag).1)
theorem inP_nodup (i : Input) : ((inP i).map (·.1)).Nodup := by
  have := row_nodup (nameF i)
  simpa [inP, List.map_map, Function.comp_def] using this
theorem inP_range {i : Input} (hw : i.Wf) : pRng (inP i) := fun p hp => by
  obtain ⟨f, _, rfl⟩ := List.mem_map.1 hp
  exact inValF_range hw f.tag
theorem inP_tags (i : Input) : (refFieldsF (nameF i)).map (rfTg i) = (inP i).map pT := by
  unfold inP
  rw [List.map_map]
  rfl
/-- What an input's line tells, and that it gives the input back. -/
theorem in_back {i : Input} (hw : i.Wf) (h : toldE i = 0) : ∃ s, lineF i = encF s ((inP i).map pT) ∧ s = letterF (nameF i) ∧ (1 ≤ nameF i ∧ nameF i ≤ 4) ∧ idxF s = nameF i ∧ inputF (nameF i) (valuedF ((inP i).map pT)) = i ∧ rdGo ((inP i).map pT) (refFieldsF (nameF i)) (bareF (nameF i)) = i := by
  obtain ⟨k, s, fs, hF⟩ := toldE_some h
  obtain ⟨h1, h2⟩ := told_same hF
  have hre : refE i = 0 := by rw [← toldE_eq hw]; exact h
  have hn0 : ¬ nameF i = 0 := fun h0 => by unfold refE at hre; rw [if_pos h0] at hre; cases hre
  have hnr := nameF_range i hn0
  have hk : k = nameF i := by
    unfold fieldsF at hF
    unfold nameF
    split at hF
    · rename_i hk
      simp only [Option.some.injEq, Prod.mk.injEq] at hF
      rw [if_pos hk]
      exact hF.1.symm
    · rename_i hk
      rw [if_neg hk]
      split at hF
      · cases hF
      · rename_i hk1
        have hk1 : i.kind = 1 := by omega
        split at hF
        · rename_i hc
          simp only [Option.some.injEq, Prod.mk.injEq] at hF
          rw [if_pos ⟨hk1, by omega, by omega⟩, hc]
          exact hF.1.symm
        · split at hF
          · rename_i hc
            simp only [Option.some.injEq, Prod.mk.injEq] at hF
            rw [if_pos ⟨hk1, by omega, by omega⟩, hc]
            exact hF.1.symm
          · split at hF
            · rename_i hc
              simp only [Option.some.injEq, Prod.mk.injEq] at hF
              rw [if_pos ⟨hk1, by omega, by omega⟩, hc]
              exact hF.1.symm
            · cases hF
  have hc : inputF k (numsF fs) = i := by
    unfold toldE at h
    rw [hF] at h
    dsimp only at h
    split at h
    · rename_i hc; exact hc.2
    · cases h
  have hfi := (fieldsF_fine hw hF).2
  have htg : fs.map (·.tag) = (inP i).map (·.1) := by
    have := congrArg (List.map Tg.tag) (h2.trans (inP_tags i))
    simpa [List.map_map, Function.comp_def, tgOf, pT] using this
  have hnd : (fs.map (·.tag)).Nodup := htg ▸ inP_nodup i
  have hPf : (fs.map fun f => (f.tag, f.num)) = inP i := by
    have hA : fs.map tgOf = (fs.map fun f => (f.tag, f.num)).map pT := by rw [List.map_map]; rfl
    have hB := valued_of (P := fs.map fun f => (f.tag, f.num)) (by simpa [List.map_map, Function.comp_def] using hnd) (fun p hp => by
      obtain ⟨f, hf, rfl⟩ := List.mem_map.1 hp
      exact (hfi f hf).1)
    have hC := valued_of (inP_nodup i) (inP_range hw)
    rw [← hA, h2, inP_tags, hC] at hB
    exact hB.symm
  refine ⟨s, ?_, h1, hnr, ?_, ?_, ?_⟩
  · rw [lineF_ok h hF, h2, inP_tags]
  · rw [h1]; exact idx_letter hnr rfl
  · rw [valued_of (inP_nodup i) (inP_range hw), ← hPf, ← nums_of hnd, ← hk]
    exact hc
  · have hv : ∃ s0, valsGo i (refFieldsF (nameF i)) (bareF (nameF i), []) = some s0 ∧ s0.1 = i := by
      unfold refE at hre
      rw [if_neg hn0] at hre
      cases hv : valsGo i (refFieldsF (nameF i)) (bareF (nameF i), []) with
      | none => rw [hv] at hre; cases hre
      | some s0 =>
        rw [hv] at hre
        dsimp only at hre
        split at hre
        · rename_i he; exact ⟨s0, rfl, he⟩
        · cases hre
    obtain ⟨s0, hv1, hv2⟩ := hv
    have h3 := valsGo_fst _ _ _ hv1
    have key : ∀ (l : List RF) (a : Input), (∀ f ∈ l, f ∈ refFieldsF (nameF i)) → rdGo ((inP i).map pT) l a = l.foldl (fun a f => withF a f.tag (inValF i f.tag).1) a := by
      intro l
      induction l with
      | nil => intro a _; rfl
      | cons f l ih =>
        intro a hl
        show rdGo ((inP i).map pT) l (withF a f.tag (numZ ((inP i).map pT) f.tag)) = _
        rw [ih _ (fun g hg => hl g (List.mem_cons_of_mem _ hg)), List.foldl_cons]
        have hm : (f.tag, (inValF i f.tag).1) ∈ inP i := List.mem_map.2 ⟨f, hl f (List.mem_cons_self ..), rfl⟩
        rw [numZ_of (inP_nodup i) (inP_range hw) hm]
    rw [key _ _ (fun f hf => hf), ← h3]
    exact hv2
theorem line_told {i : Input} {L : List Int} (h : lineF i = (0, L)) : toldE i = 0 := Classical.not_not.1 fun hn => by
  rw [lineF_err hn] at h
  exact hn (congrArg Prod.fst h)
/-- What a line that an input tells is read as. -/
theorem read_canon {i : Input} (hw : i.Wf) {l : List Int} {n : Nat} (h : lineF i = (0, l.take n)) : idxF (readF l).kind = nameF i ∧ (1 ≤ nameF i ∧ nameF i ≤ 4) ∧ inputF (nameF i) (valuedF (readF l).tags) = i ∧ rdGo (readF l).tags (refFieldsF (nameF i)) (bareF (nameF i)) = i := by
  have h0 := line_told h
  obtain ⟨s, h1, h2, h3, h4, h5, h6⟩ := in_back hw h0
  rw [h1] at h
  have h7 := read_enc h (l.drop n)
  rw [List.take_append_drop] at h7
  rw [h7]
  exact ⟨h4, h3, h5, h6⟩
theorem read_same {l : List Int} : readLineF l = readRefF l := by
  unfold readLineF readRefF
  by_cases hw : (readF l).why ≠ 0
  · rw [if_pos hw, if_pos hw]
  rw [if_neg hw, if_neg hw]
  by_cases hk : idxF (readF l).kind = 0
  · rw [if_pos hk, if_pos hk]
  rw [if_neg hk, if_neg hk]
  have hix := idxF_range (readF l).kind
  have hr4 : 1 ≤ idxF (readF l).kind ∧ idxF (readF l).kind ≤ 4 := by omega
  by_cases hp : lineF (inputF (idxF (readF l).kind) (valuedF (readF l).tags)) = (0, l.take (readF l).size)
  · obtain ⟨a, b, c, d⟩ := read_canon (inputF_wf _ _ (by omega)) hp
    rw [if_pos hp]
    rw [← a] at d
    rw [d, if_pos hp]
  · by_cases hq : lineF (rdGo (readF l).tags (refFieldsF (idxF (readF l).kind)) (bareF (idxF (readF l).kind))) = (0, l.take (readF l).size)
    · obtain ⟨a, b, c, d⟩ := read_canon (rdGo_wf _ _ _ (bareF_wf hr4)) hq
      rw [← a] at c
      exact absurd (by rw [c]; exact hq) hp
    · rw [if_neg hp, if_neg hq]
end Go.Rx
/- What is told of an event is read back: plain. -/
namespace Go.Rx
open Go Go.RowKit Go.Lib Go.Proofs.YthpejgmkiomfhaaGreatDoor
set_option linter.unusedVariables false
set_option linter.unusedSimpArgs false
def evQ (e : Event) : List (Int × Int) := (toldRF e.kind).map fun f => (f.tag, (eventValueF e f.tag).1)
def ins150 (k : Int) : List (Int × Int) → List (Int × Int)
  | [] => []
  | a :: r => a :: (150, k) :: r
def evP (e : Event) : List (Int × Int) := ins150 e.kind (evQ e)
theorem evP_tags (e : Event) : evTags e (toldRF e.kind) = (evP e).map pT := by
  unfold evP evQ
  cases h : toldRF e.kind with
  | nil => rfl
  | cons f r =>
    show evTg e f :: kindTg e :: r.map (evTg e) = pT (f.tag, _) :: pT (150, e.kind) :: (r.map _).map pT
    rw [List.map_map]
    rfl
theorem told_nodup (k : Int) : ((toldRF k).map (·.tag)).Nodup ∧ 150 ∉ (toldRF k).map (·.tag) := by
  unfold toldRF
  (repeat' split) <;> decide
theorem evQ_fst (e : Event) : (evQ e).map (·.1) = (toldRF e.kind).map (·.tag) := by simp [evQ, List.map_map, Function.comp_def]
theorem evP_nodup (e : Event) : ((evP e).map (·.1)).Nodup := by
  obtain ⟨h1, h2⟩ := told_nodup e.kind
  rw [← evQ_fst] at h1 h2
  unfold evP
  cases hq : evQ e with
  | nil => simp [ins150]
  | cons a r =>
    rw [hq] at h1 h2
    rw [List.map_cons, List.nodup_cons] at h1
    rw [List.map_cons, List.mem_cons, not_or] at h2
    show ((a :: (150, e.kind) :: r).map (·.1)).Nodup
    rw [List.map_cons, List.map_cons, List.nodup_cons, List.nodup_cons, List.mem_cons, not_or]
    exact ⟨⟨fun h => h2.1 h.symm, h1.1⟩, h2.2, h1.2⟩
theorem evQ_range {e : Event} (hw : e.Wf) : pRng (evQ e) := fun p hp => by
  obtain ⟨f, _, rfl⟩ := List.mem_map.1 hp
  exact eventValueF_range hw f.tag
theorem evP_range {e : Event} (hw : e.Wf) (hk : 1 ≤ e.kind ∧ e.kind ≤ 5) : pRng (evP e) := by
  have h := evQ_range hw
  unfold evP
  cases hq : evQ e with
  | nil => intro p hp; cases hp
  | cons a r =>
    rw [hq] at h
    intro p hp
    rcases List.mem_cons.1 hp with rfl | hp
    · exact h _ (List.mem_cons_self ..)
    · rcases List.mem_cons.1 hp with rfl | hp
      · show 0 ≤ e.kind ∧ e.kind ≤ _; omega
      · exact h _ (List.mem_cons_of_mem _ hp)
theorem iget_skip {k : Int} {P : List (Int × Int)} {t : Int} (ht : t ≠ 150) : iget (ins150 k P) t = iget P t := by
  cases P with
  | nil => rfl
  | cons a r =>
    obtain ⟨a1, a2⟩ := a
    show (if t = a1 then a2 else if t = 150 then k else iget r t) = if t = a1 then a2 else iget r t
    rw [if_neg ht]
theorem evValsGo_fst {i : Event} : ∀ (l : List RF) (s s' : Event × List Int), evValsGo i l s = some s' → s'.1 = l.foldl (fun a f => withEventF a f.tag (eventValueF i f.tag).1) s.1
  | [], s, s', h => by
    simp only [evValsGo, Option.some.injEq] at h
    subst h
    rfl
  | f :: r, s, s', h => by
    simp only [evValsGo] at h
    cases hs : evStepF i f s with
    | none => rw [hs] at h; cases h
    | some q =>
      rw [hs] at h
      have h2 := evValsGo_fst r q s' h
      unfold evStepF at hs
      split at hs
      · cases hs
      · split at hs
        · cases hs
        · simp only [Option.some.injEq] at hs
          subst hs
          exact h2
theorem told_two {k : Int} (hk : 1 ≤ k ∧ k ≤ 5) : ∃ f r, toldRF k = f :: r := by
  cases h : toldRF k with
  | nil => have := toldRF_pos hk; rw [h] at this; simp at this
  | cons f r => exact ⟨f, r, rfl⟩
theorem ev_back {e : Event} (hw : e.Wf) (h : toldEvE e = 0) : evLineF e = encF ⟨#[56]⟩ ((evP e).map pT) ∧ (1 ≤ e.kind ∧ e.kind ≤ 5) ∧ (2 ≤ ((evP e).map pT).length ∧ ((evP e).map pT)[1]!.tag = 150 ∧ ((evP e).map pT)[1]!.value = decS e.kind.toNat) ∧
    eventOfF e.kind (valuedF ((evP e).map pT)) = e ∧ evRd ((evP e).map pT) (toldRF e.kind) (ev0 e.kind) = e := by
  have hre : refEvE e = 0 := by rw [← toldEvE_eq hw]; exact h
  obtain ⟨fs, hF⟩ : ∃ fs, evFieldsF e = some fs := by
    unfold toldEvE at h
    cases hF : evFieldsF e with
    | none => rw [hF] at h; cases h
    | some fs => exact ⟨fs, rfl⟩
  have hk := (evFieldsF_small hF).2
  have hc : eventOfF e.kind (numsF fs) = e := by
    unfold toldEvE at h
    rw [hF] at h
    dsimp only at h
    split at h
    · rename_i hc; exact hc.2
    · cases h
  have h2 := toldEv_same hF
  have hfi := (evFieldsF_fine hw hF).2
  have hQt : (toldRF e.kind).map (evTg e) = (evQ e).map pT := by unfold evQ; rw [List.map_map]; rfl
  have hqn : ((evQ e).map (·.1)).Nodup := by rw [evQ_fst]; exact (told_nodup e.kind).1
  have htg : fs.map (·.tag) = (evQ e).map (·.1) := by
    have := congrArg (List.map Tg.tag) (h2.trans hQt)
    simpa [List.map_map, Function.comp_def, tgOf, pT] using this
  have hnd : (fs.map (·.tag)).Nodup := htg ▸ hqn
  have hPf : (fs.map fun f => (f.tag, f.num)) = evQ e := by
    have hA : fs.map tgOf = (fs.map fun f => (f.tag, f.num)).map pT := by rw [List.map_map]; rfl
    have hB := valued_of (P := fs.map fun f => (f.tag, f.num)) (by simpa [List.map_map, Function.comp_def] using hnd) (fun p hp => by
      obtain ⟨f, hf, rfl⟩ := List.mem_map.1 hp
      exact (hfi f hf).1)
    have hC := valued_of hqn (evQ_range hw)
    rw [← hA, h2, hQt, hC] at hB
    exact hB.symm
  obtain ⟨f0, r0, hfr⟩ := told_two hk
  have hqs : evQ e = (f0.tag, (eventValueF e f0.tag).1) :: r0.map fun f => (f.tag, (eventValueF e f.tag).1) := by unfold evQ; rw [hfr]; rfl
  have hps : evP e = (f0.tag, (eventValueF e f0.tag).1) :: (150, e.kind) :: r0.map fun f => (f.tag, (eventValueF e f.tag).1) := by unfold evP; rw [hqs]; rfl
  refine ⟨?_, hk, ?_, ?_, ?_⟩
  · unfold evLineF
    rw [if_pos hre, evP_tags]
  · rw [hps]
    exact ⟨by simp, rfl, rfl⟩
  · rw [valued_of (evP_nodup e) (evP_range hw hk)]
    have h3 : ∀ t, t ≠ 150 → iget (evP e) t = iget (numsF fs) t := fun t ht => by
      rw [nums_of hnd, hPf]
      exact iget_skip ht
    refine Eq.trans ?_ hc
    unfold eventOfF
    rw [h3 34 (by decide), h3 11 (by decide), h3 37 (by decide), h3 41 (by decide), h3 1 (by decide), h3 54 (by decide), h3 40 (by decide), h3 44 (by decide), h3 38 (by decide), h3 210 (by decide), h3 378 (by decide), h3 103 (by decide)]
  · have hv : ∃ s0, evValsGo e (toldRF e.kind) (ev0 e.kind, []) = some s0 ∧ s0.1 = e := by
      unfold refEvE at hre
      rw [if_neg (fun hn => hn hk)] at hre
      cases hv : evValsGo e (toldRF e.kind) (ev0 e.kind, []) with
      | none => rw [hv] at hre; cases hre
      | some s0 =>
        rw [hv] at hre
        dsimp only at hre
        split at hre
        · rename_i he; exact ⟨s0, rfl, he⟩
        · cases hre
    obtain ⟨s0, hv1, hv2⟩ := hv
    have h3 := evValsGo_fst _ _ _ hv1
    have key : ∀ (l : List RF) (a : Event), (∀ f ∈ l, f ∈ toldRF e.kind) → evRd ((evP e).map pT) l a = l.foldl (fun a f => withEventF a f.tag (eventValueF e f.tag).1) a := by
      intro l
      induction l with
      | nil => intro a _; rfl
      | cons f l ih =>
        intro a hl
        show evRd ((evP e).map pT) l (withEventF a f.tag (numZ ((evP e).map pT) f.tag)) = _
        rw [ih _ (fun g hg => hl g (List.mem_cons_of_mem _ hg)), List.foldl_cons]
        have hm : (f.tag, (eventValueF e f.tag).1) ∈ evP e := by
          have h5 : (f.tag, (eventValueF e f.tag).1) ∈ evQ e := List.mem_map.2 ⟨f, hl f (List.mem_cons_self ..), rfl⟩
          rw [hqs] at h5
          rw [hps]
          rcases List.mem_cons.1 h5 with h5 | h5
          · rw [h5]; exact List.mem_cons_self ..
          · exact List.mem_cons_of_mem _ (List.mem_cons_of_mem _ h5)
        rw [numZ_of (evP_nodup e) (evP_range hw hk) hm]
    rw [key _ _ (fun f hf => hf), ← h3]
    exact hv2
theorem evLine_told {e : Event} (hw : e.Wf) {L : List Int} (h : evLineF e = (0, L)) : toldEvE e = 0 := Classical.not_not.1 fun hn => by
  rw [evLineF_err hw hn] at h
  exact hn (congrArg Prod.fst h)
theorem evRead_canon {e : Event} (hw : e.Wf) {l : List Int} {n : Nat} (h : evLineF e = (0, l.take n)) : ¬ notEv (readF l) ∧ (1 ≤ e.kind ∧ e.kind ≤ 5) ∧ kdF (readF l).tags[1]!.value = e.kind ∧ eventOfF e.kind (valuedF (readF l).tags) = e ∧ evRd (readF l).tags (toldRF e.kind) (ev0 e.kind) = e ∧ (readF l).kind = ⟨#[56]⟩ := by
  have h0 := evLine_told hw h
  obtain ⟨h1, h2, ⟨h3, h4, h5⟩, h6, h7⟩ := ev_back hw h0
  rw [h1] at h
  have h8 := read_enc h (l.drop n)
  rw [List.take_append_drop] at h8
  rw [h8]
  refine ⟨?_, h2, ?_, h6, h7, rfl⟩
  · rintro (h | h | h)
    · exact h rfl
    · exact absurd h (by show ¬ ((evP e).map pT).length < 2; omega)
    · exact h h4
  · show kdF ((evP e).map pT)[1]!.value = e.kind
    rw [h5, kd_dec (m := e.kind.toNat) (by omega) rfl]
    omega
theorem evRead_same {l : List Int} : evReadF l = evReadRefF l := by
  unfold evReadF evReadRefF
  by_cases hw : (readF l).why ≠ 0
  · rw [if_pos hw, if_pos hw]
  rw [if_neg hw, if_neg hw]
  by_cases hk : notEv (readF l) ∨ kdF (readF l).tags[1]!.value = 0
  · rw [if_pos hk, if_pos hk]
  rw [if_neg hk, if_neg hk]
  by_cases hp : evLineF (eventOfF (kdF (readF l).tags[1]!.value) (valuedF (readF l).tags)) = (0, l.take (readF l).size)
  · obtain ⟨_, b, a, c, d, _⟩ := evRead_canon (eventOfF_wf _ _) hp
    rw [if_pos hp]
    rw [← a] at d
    rw [d, if_pos hp]
  · by_cases hq : evLineF (evRd (readF l).tags (toldRF (kdF (readF l).tags[1]!.value)) (ev0 (kdF (readF l).tags[1]!.value))) = (0, l.take (readF l).size)
    · obtain ⟨_, b, a, c, d, _⟩ := evRead_canon (evRd_wf _ _ _ (ev0_wf _)) hq
      rw [← a] at c
      exact absurd (by rw [c]; exact hq) hp
    · rw [if_neg hp, if_neg hq]
/-! ### what can be told has a line -/
theorem dec_value (n : Nat) (h : n ≤ 18446744073709551615) : valueB (decS n) = true := by
  unfold valueB
  have h1 := (decS_facts h).1
  have h2 : bytesOf (decS n) = decL n := by
    rw [← strOf_dec]
    exact bytesOf_str (decL_bytes n)
  rw [h2, decide_eq_true h1, Bool.true_and, List.all_eq_true]
  intro c hc
  have := decL_digit n c hc
  unfold printB
  rw [decide_eq_true (by omega), decide_eq_true (by omega)]
  rfl
theorem encE_zero : ∀ (xs seen : List Tg), (∀ t ∈ xs, tagB t.tag = true ∧ valueB t.value = true) → ((seen ++ xs).map (·.tag)).Nodup → encE seen xs = 0
  | [], _, _, _ => rfl
  | t :: r, seen, h, hn => by
    have h1 := h t (List.mem_cons_self ..)
    have hno : thereB seen t.tag = false := by
      unfold thereB
      rw [List.any_eq_false]
      intro x hx he
      have he' : x.tag = t.tag := by simpa using he
      rw [List.map_append, List.nodup_append] at hn
      exact hn.2.2 _ (List.mem_map.2 ⟨x, hx, rfl⟩) _ (by simp) he'
    have hz : refusedF seen t = 0 := by
      unfold refusedF
      rw [h1.1, h1.2, hno]
      rfl
    unfold encE
    rw [if_neg (by rw [hz]; decide)]
    refine encE_zero r _ (fun x hx => h x (List.mem_cons_of_mem _ hx)) ?_
    simpa using hn
theorem enc_ok {kind : ByteArray} {P : List (Int × Int)} (hk : kindB kind = true) (hk2 : kind.size ≤ 2) (hl : P.length ≤ 9) (hn : (P.map (·.1)).Nodup) (hr : pRng P) (ht : ∀ p ∈ P, tagB p.1 = true ∧ p.1.toNat < 10000) : (encF kind (P.map pT)).1 = 0 := by
  have hx : ∀ t ∈ P.map pT, tagB t.tag = true ∧ valueB t.value = true ∧ t.tag.toNat < 10000 ∧ t.value.size ≤ 20 := fun t h => by
    obtain ⟨p, hp, rfl⟩ := List.mem_map.1 h
    have h1 := hr p hp
    exact ⟨(ht p hp).1, dec_value _ (by omega), (ht p hp).2, (decS_facts (n := p.2.toNat) (by omega)).2.1⟩
  have he := encE_zero (P.map pT) [] (fun t h => ⟨(hx t h).1, (hx t h).2.1⟩) (by simpa [List.map_map, Function.comp_def, pT] using hn)
  have hb : (bodyL kind (P.map pT)).length ≤ 300 := by
    unfold bodyL
    rw [List.length_append, field_len]
    have h1 := decL_four (n := 35) (by decide)
    have h2 := flat_small (fun t : Tg => fieldL t.tag.toNat t.value) 26 (P.map pT) (fun t h => by
      have := (hx t h).2.2
      have := decL_four this.1
      rw [field_len]
      omega)
    rw [List.length_map] at h2
    omega
  have h3 := line_len kind (P.map pT)
  have h5 := decL_four (n := (bodyL kind (P.map pT)).length) (by omega)
  rw [encF_line (by rw [hk]; decide) (by rw [List.length_map]; omega) (by rw [he]; decide) (by omega)]
theorem line_err {i : Input} (hw : i.Wf) : (lineF i).1 = toldE i := by
  by_cases h : toldE i = 0
  · obtain ⟨s, h1, h2, h3, _⟩ := in_back hw h
    rw [h1, h]
    have htags : ∀ k : Int, ((refFieldsF k).all fun f => tagB f.tag && decide (f.tag.toNat < 10000)) = true := fun k => by
      unfold refFieldsF
      (repeat' split) <;> decide
    have hsm := refFieldsF_small (nameF i)
    refine enc_ok ?_ (by rw [h2]; exact letter_size _) (by unfold inP; rw [List.length_map]; omega) (inP_nodup i) (inP_range hw) (fun p hp => ?_)
    · rw [h2]
      have : nameF i = 1 ∨ nameF i = 2 ∨ nameF i = 3 ∨ nameF i = 4 := by omega
      rcases this with h | h | h | h <;> rw [h] <;> decide
    · obtain ⟨f, hf, rfl⟩ := List.mem_map.1 hp
      have := List.all_eq_true.1 (htags (nameF i)) f hf
      rw [Bool.and_eq_true] at this
      exact ⟨this.1, of_decide_eq_true this.2⟩
  · rw [lineF_err h]
theorem evLine_err {e : Event} (hw : e.Wf) : (evLineF e).1 = toldEvE e := by
  by_cases h : toldEvE e = 0
  · obtain ⟨h1, hk, _⟩ := ev_back hw h
    rw [h1, h]
    have htags : ∀ k : Int, ((toldRF k).all fun f => tagB f.tag && decide (f.tag.toNat < 10000)) = true := fun k => by
      unfold toldRF
      (repeat' split) <;> decide
    have hsm := toldRF_small e.kind
    obtain ⟨f0, r0, hfr⟩ := told_two hk
    have hps : evP e = (f0.tag, (eventValueF e f0.tag).1) :: (150, e.kind) :: r0.map fun f => (f.tag, (eventValueF e f.tag).1) := by unfold evP evQ; rw [hfr]; rfl
    have hall : ∀ f ∈ toldRF e.kind, tagB f.tag = true ∧ f.tag.toNat < 10000 := fun f hf => by
      have := List.all_eq_true.1 (htags e.kind) f hf
      rw [Bool.and_eq_true] at this
      exact ⟨this.1, of_decide_eq_true this.2⟩
    refine enc_ok (by decide) (by decide) (by rw [hps]; rw [hfr] at hsm; simp at hsm ⊢; omega) (evP_nodup e) (evP_range hw hk) (fun p hp => ?_)
    rw [hps] at hp
    rw [hfr] at hall
    rcases List.mem_cons.1 hp with rfl | hp
    · exact hall f0 (List.mem_cons_self ..)
    · rcases List.mem_cons.1 hp with rfl | hp
      · show tagB 150 = true ∧ Int.toNat 150 < 10000; decide
      · obtain ⟨f, hf, rfl⟩ := List.mem_map.1 hp
        exact hall f (List.mem_cons_of_mem _ hf)
  · rw [evLineF_err hw h]
end Go.Rx
/- The laws bourselaw04.MessageReads, MessageBack, MessageOneForm give true. -/
namespace Go.Rx
open Go Go.RowKit Go.Lib Go.Proofs.YthpejgmkiomfhaaGreatDoor
set_option linter.unusedVariables false
set_option linter.unusedSimpArgs false
/-- An input that was read: the bytes that it tells. -/
theorem readLine_ok {l : List Int} (hB : isBytes l) {i : Input} {n : Int} (h : readLineF l = (i, n, 0)) : i.Wf ∧ lineF i = (0, l.take (readF l).size) ∧ n = ((readF l).size : Int) ∧ 1 ≤ (readF l).size ∧ (readF l).size ≤ l.length ∧ idxF (readF l).kind ≠ 0 := by
  unfold readLineF at h
  by_cases hw : (readF l).why ≠ 0
  · rw [if_pos hw] at h
    exact absurd (congrArg (fun p => p.2.2) h) hw
  rw [if_neg hw] at h
  have hw0 : (readF l).why = 0 := Classical.not_not.1 hw
  obtain ⟨_, h18, hle⟩ := read_inv hB hw0
  by_cases hk : idxF (readF l).kind = 0
  · rw [if_pos hk] at h
    exact absurd (show (41 : Int) = 0 from congrArg (fun p => p.2.2) h) (by decide)
  rw [if_neg hk] at h
  have hix := idxF_range (readF l).kind
  by_cases hp : lineF (inputF (idxF (readF l).kind) (valuedF (readF l).tags)) = (0, l.take (readF l).size)
  · rw [if_pos hp] at h
    simp only [Prod.mk.injEq] at h
    obtain ⟨rfl, rfl, _⟩ := h
    exact ⟨inputF_wf _ _ (by omega), hp, rfl, by omega, hle, hk⟩
  · rw [if_neg hp] at h
    exact absurd (show (40 : Int) = 0 from congrArg (fun p => p.2.2) h) (by decide)
theorem evRead_ok {l : List Int} (hB : isBytes l) {e : Event} {n : Int} (h : evReadF l = (e, n, 0)) : e.Wf ∧ evLineF e = (0, l.take (readF l).size) ∧ n = ((readF l).size : Int) ∧ 1 ≤ (readF l).size ∧ (readF l).size ≤ l.length ∧ (readF l).kind = ⟨#[56]⟩ := by
  unfold evReadF at h
  by_cases hw : (readF l).why ≠ 0
  · rw [if_pos hw] at h
    exact absurd (congrArg (fun p => p.2.2) h) hw
  rw [if_neg hw] at h
  have hw0 : (readF l).why = 0 := Classical.not_not.1 hw
  obtain ⟨_, h18, hle⟩ := read_inv hB hw0
  by_cases hk : notEv (readF l) ∨ kdF (readF l).tags[1]!.value = 0
  · rw [if_pos hk] at h
    exact absurd (show (41 : Int) = 0 from congrArg (fun p => p.2.2) h) (by decide)
  rw [if_neg hk] at h
  by_cases hp : evLineF (eventOfF (kdF (readF l).tags[1]!.value) (valuedF (readF l).tags)) = (0, l.take (readF l).size)
  · rw [if_pos hp] at h
    simp only [Prod.mk.injEq] at h
    obtain ⟨rfl, rfl, _⟩ := h
    exact ⟨eventOfF_wf _ _, hp, rfl, by omega, hle, Classical.not_not.1 fun hn => hk (.inl (.inl hn))⟩
  · rw [if_neg hp] at h
    exact absurd (show (40 : Int) = 0 from congrArg (fun p => p.2.2) h) (by decide)
/-- A line that an input tells is read. -/
theorem back_line {i : Input} (hw : i.Wf) (h : toldE i = 0) : readLineF (lineF i).2 = (i, ((lineF i).2.length : Int), 0) := by
  have h1 : lineF i = (0, (lineF i).2) := Prod.ext (by rw [line_err hw, h]) rfl
  obtain ⟨s, h2, h3, h4, h5, h6, h7⟩ := in_back hw h
  have hE := h2 ▸ h1
  have hR := read_enc (h2.symm.trans h1) []
  rw [List.append_nil] at hR
  obtain ⟨L, hL⟩ : ∃ L, L = (lineF i).2 := ⟨_, rfl⟩
  rw [← hL] at h1 hR ⊢
  have hwy : ¬ (readF L).why ≠ 0 := by rw [hR]; exact fun h => h rfl
  have hsz : L.take (readF L).size = L := by rw [hR]; exact List.take_length
  have hk : (readF L).kind = s := by rw [hR]
  have ht : (readF L).tags = (inP i).map pT := by rw [hR]
  have hs : (readF L).size = L.length := by rw [hR]
  unfold readLineF
  rw [if_neg hwy, hk, h5, if_neg (by omega), ht, h6, hsz, if_pos h1, hs]
theorem back_evLine {e : Event} (hw : e.Wf) (h : toldEvE e = 0) : evReadF (evLineF e).2 = (e, ((evLineF e).2.length : Int), 0) := by
  have h1 : evLineF e = (0, (evLineF e).2) := Prod.ext (by rw [evLine_err hw, h]) rfl
  obtain ⟨h2, h3, ⟨h4, h5, h6⟩, h7, h8⟩ := ev_back hw h
  have hR := read_enc (h2.symm.trans h1) []
  rw [List.append_nil] at hR
  obtain ⟨L, hL⟩ : ∃ L, L = (evLineF e).2 := ⟨_, rfl⟩
  rw [← hL] at h1 hR ⊢
  have hsz : L.take (readF L).size = L := by rw [hR]; exact List.take_length
  obtain ⟨a, b, c, d, _, _⟩ := evRead_canon hw (l := L) (n := (readF L).size) (by rw [hsz]; exact h1)
  have hwy : ¬ (readF L).why ≠ 0 := by rw [hR]; exact fun h => h rfl
  have hs : (readF L).size = L.length := by rw [hR]
  unfold evReadF
  rw [if_neg hwy, if_neg (fun hn => hn.elim a (fun h0 => by rw [c] at h0; omega)), c, d, hsz, if_pos h1, hs]
/-! ### frames -/
theorem unpack_ok {f : Frame} {i : Input} (h : unpackF f = (i, 0)) : packF i = (f, 0) ∧ 1 ≤ f.kind ∧ f.kind ≤ 4 := by
  unfold unpackF at h
  split at h
  · exact absurd (show (41 : Int) = 0 from congrArg Prod.snd h) (by decide)
  · rename_i hk
    split at h
    · rename_i hc
      simp only [Prod.mk.injEq] at h
      obtain ⟨rfl, _⟩ := h
      exact ⟨Prod.ext hc.2 hc.1, by omega, by omega⟩
    · exact absurd (show (40 : Int) = 0 from congrArg Prod.snd h) (by decide)
theorem evUnpack_ok {f : Frame} {e : Event} (h : unpackEvF f = (e, 0)) : packEvF e = (f, 0) ∧ 65 ≤ f.kind := by
  unfold unpackEvF at h
  cases hF : evFieldsF (ev0 (f.kind - 64)) with
  | none =>
    rw [hF] at h
    exact absurd (show (41 : Int) = 0 from congrArg Prod.snd h) (by decide)
  | some fs =>
    rw [hF] at h
    dsimp only at h
    split at h
    · rename_i hc
      simp only [Prod.mk.injEq] at h
      obtain ⟨rfl, _⟩ := h
      have := (evFieldsF_small hF).2.1
      have h2 : 1 ≤ f.kind - 64 := this
      exact ⟨Prod.ext hc.2 hc.1, by omega⟩
    · exact absurd (show (40 : Int) = 0 from congrArg Prod.snd h) (by decide)
end Go.Rx
/- The law bourselaw04.MessageReads gives true. -/
namespace Go.Rx
open Go Go.RowKit Go.Lib Go.Proofs.YthpejgmkiomfhaaGreatDoor
set_option linter.unusedVariables false
set_option linter.unusedSimpArgs false
theorem lawHand {w : World} {v : Value} {l : List Int} (hr : RSl byteEnc 1 w [] v l) (hl : l.length ≤ 140737488351232) : Spec Go.Proofs.Tryz.prog 6 #[v] w [] (fun u N => ∃ A c, u = .slice A (l ++ [1, 2, 3, 4, 5]).length c ∧ N = [bytesC (.slice A (l ++ [1, 2, 3, 4, 5]).length c) (l ++ [1, 2, 3, 4, 5])]) := by
  refine Spec.enter (fn := Go.Proofs.Tryz.f6) (n := 10) [v] Go.Proofs.Tryz.func6 (by kernel_rfl) rfl Go.Proofs.Tryz.ntmps6 Go.Proofs.Tryz.results6 rfl (Own.nil _) ?_
  refine JC.rs ?_
  refine Seq.p rfl Ev.assign ?_
  refine Seq.nil ?_
  refine JC.rs ?_
  refine Seq.buildSlN [] (hsl := sl.sl_uint8) (hz := z.uint8) (k := ?_); intro b4
  refine Seq.re (fun w h => Upd.boxOwn h (n := 0) (size := 1) At.z rfl (by omega)) ?_
  refine Seq.p rfl Ev.move ?_
  refine Seq.append (hsl := sl.sl_uint8) (he := el.uint8) (hsrc := (fun w' hw => Src.rsl sl.sl_uint8 (hr.up hw) (by decide) byteOne)) (k := ?_); intro A6 c6
  refine Seq.p rfl Ev.assign ?_
  refine Seq.nil ?_
  refine JC.rs ?_
  refine Seq.p rfl Ev.move ?_
  refine Seq.buildSlN [.int .u8 1, .int .u8 2, .int .u8 3, .int .u8 4, .int .u8 5] (hsl := sl.sl_uint8) (hz := z.uint8) (k := ?_); intro b8
  refine Seq.append (hsl := sl.sl_uint8) (he := el.uint8) (hsrc := (fun w' hw => Src.box (hl := by rfl) (hc := fun q u hu => hu) sl.sl_uint8 At.z hw)) (k := ?_); intro A9 c9
  refine Seq.p rfl Ev.assign ?_
  refine Seq.nil ?_
  refine JC.ret ?_
  -- return 0
  show retQ _ _ _ _ _ _ _ _
  refine ret1 (hp := Part.skip (Part.refl _)) (hpost := ?_)
  exact ⟨A9, c9, by simp, by simp [bytesC, byteEnc]⟩
theorem lawLeft {w : World} {v u : Value} {l : List Int} (h1 : RSl byteEnc 1 w [] v (l ++ [1, 2, 3, 4, 5])) (h2 : RSl byteEnc 1 w [] u l) (hl : l.length ≤ 140737488351232) : Spec Go.Proofs.Tryz.prog 11 #[v, u] w [] (fun r _ => r = .bool true) := by
  refine Spec.enter (fn := Go.Proofs.Tryz.f11) (n := 11) [v, u] Go.Proofs.Tryz.func11 (by kernel_rfl) rfl Go.Proofs.Tryz.ntmps11 Go.Proofs.Tryz.results11 rfl (Own.nil _) ?_
  refine JC.rs ?_
  refine Seq.p rfl Ev.assign ?_
  refine Seq.nil ?_
  refine JC.rs ?_
  refine Seq.p rfl Ev.move ?_
  refine Seq.p rfl (Ev.strOf sl.sl_uint8 it.uint8 st.string (hr := h1.r)) ?_
  refine Seq.p rfl Ev.move ?_
  refine Seq.p rfl (Ev.strOf sl.sl_uint8 it.uint8 st.string (hr := h2.r)) ?_
  refine Seq.p rfl (Ev.addStr (h := by rw [strOf_size]; show l.length + 5 ≤ _; omega)) ?_
  refine Seq.p rfl Ev.eqStr ?_
  refine Seq.p rfl Ev.assign ?_
  refine Seq.nil ?_
  refine JC.ret ?_
  -- return 0
  show retQ _ _ _ _ _ _ _ _
  refine ret1 (hp := Part.nil _) (hpost := ?_)
  rw [strOf_app]
  have : strOf [1, 2, 3, 4, 5] = ⟨#[1, 2, 3, 4, 5]⟩ := by decide +kernel
  rw [this]
  simp
/-- The first elements of a slice, its room kept. -/
theorem RSl.pre {α : Type} [Inhabited α] {enc : α → List Value} {sz : Nat} {w : World} {Cs : List Chunk} {A : Option Addr} {m c k : Nat} {xs : List α} (h : RSl enc sz w Cs (.slice A m c) xs) (hm : m = xs.length) (hk : k ≤ m) : RSl enc sz w Cs (.slice A k c) (xs.take k) := by
  have h1 := h.sub (lo := 0) (hi := k) (Nat.zero_le _) (by omega)
  have e : subSl (.slice A m c) 0 k sz = .slice A k c := by
    unfold subSl
    cases A with
    | none => simp
    | some a =>
      have : a.add (0 * sz) = a := by rw [Nat.zero_mul]; exact Addr.add_zero a
      simp [this, Addr.add_zero]
  rw [e] at h1
  simpa using h1
set_option maxHeartbeats 4000000 in
set_option maxRecDepth 100000 in
theorem lawReads {w : World} {v : Value} {l : List Int} (hr : RSl byteEnc 1 w [] v l) (hB : isBytes l) (hl : l.length ≤ 140737488351232) (hL : Laid w) :
    Spec Go.Proofs.Tryz.prog 3 #[v] w [] (fun u _ => u = .bool true) := by
  obtain ⟨i, n, ee, hp⟩ : ∃ i n ee, readLineF l = (i, n, ee) := ⟨_, _, _, rfl⟩
  obtain ⟨ev, m, ff, hq⟩ : ∃ e m ff, evReadF l = (e, m, ff) := ⟨_, _, _, rfl⟩
  have hp2 := read_same (l := l)
  have hq2 := evRead_same (l := l)
  rw [hp] at hp2
  rw [hq] at hq2
  refine Spec.enter (fn := Go.Proofs.Tryz.f3) (n := 81) [v] Go.Proofs.Tryz.func3 (by kernel_rfl) rfl Go.Proofs.Tryz.ntmps3 Go.Proofs.Tryz.results3 rfl (Own.nil _) ?_
  refine JC.rs ?_
  refine Seq.p rfl Ev.assign ?_
  refine Seq.nil ?_
  refine JC.rs ?_
  refine Seq.p rfl Ev.move ?_
  refine Seq.call rfl (fun w' hw => lawHand (hr.up hw) hl) (F := _) (by exact List.Perm.refl _) ?_
  rintro _ _ ⟨A17, c17, rfl, rfl⟩
  simp only [List.cons_append, List.nil_append]
  refine Seq.p rfl Ev.assign ?_
  refine Seq.nil ?_
  refine JC.lens At.z ?_
  intro hnc hcm hxl
  have hml : (l ++ [1, 2, 3, 4, 5]).length = l.length + 5 := by simp
  have hpre : ∀ {w' : World} {H : List Chunk} {q : Nat}, At H q (bytesC (.slice A17 (l ++ [1, 2, 3, 4, 5]).length c17) (l ++ [1, 2, 3, 4, 5])) → Upd w w' [] H → RSl byteEnc 1 w' [] (.slice A17 l.length c17) l := fun hH hw => by
    have h1 := RSl.pre (RAt.up (RAt.own (enc := byteEnc) (xs := l ++ [1, 2, 3, 4, 5]) hH (hs := by omega)) hw) rfl (k := l.length) (by omega)
    rwa [List.take_left] at h1
  refine JC.rs ?_
  refine Seq.p rfl Ev.move ?_
  refine Seq.p rfl Ev.move ?_
  refine Seq.p rfl (Ev.lenSl sl.sl_uint8 (hr := hr.r)) ?_
  refine Seq.p rfl (Ev.cutHi (h := l.length) sl.sl_uint8) ?_
  refine Seq.callP rfl (v := .tuple #[.agg i.enc.toArray, .int .i64 n, .int .i64 ee]) (fun w' hw => by have h := msgReadLine (hpre (by repeat (first | exact At.z | apply At.s)) hw) hB (by omega) (hL.upd hw); rw [hp] at h; exact h) ?_
  refine Seq.p rfl Ev.move ?_
  refine Seq.p rfl Ev.extract ?_
  refine Seq.p rfl Ev.extract ?_
  refine Seq.p rfl Ev.extract ?_
  refine Seq.alloc (cs := [_, _, _, _, _, _, _, _, _, _, _]) (hz := z.api_Input) (k := ?_); intro b4
  refine Seq.storeTo (cs' := i.enc) sz.api_Input (hH := At.z) (hfit := Nat.le_of_ble_eq_true rfl) (hcs := rfl) (k := ?_)
  refine Seq.p rfl Ev.assign ?_
  refine Seq.p rfl Ev.assign ?_
  refine Seq.nil ?_
  refine JC.rs ?_
  refine Seq.p rfl Ev.move ?_
  refine Seq.callP rfl (v := .tuple #[.agg i.enc.toArray, .int .i64 n, .int .i64 ee]) (fun w' hw => by have h := refReadLine (hr.up hw) hB (by omega); rw [← hp2] at h; exact h) ?_
  refine Seq.p rfl Ev.move ?_
  refine Seq.p rfl Ev.extract ?_
  refine Seq.p rfl Ev.extract ?_
  refine Seq.p rfl Ev.extract ?_
  refine Seq.alloc (cs := [_, _, _, _, _, _, _, _, _, _, _]) (hz := z.api_Input) (k := ?_); intro b7
  refine Seq.storeTo (cs' := i.enc) sz.api_Input (hH := At.z) (hfit := Nat.le_of_ble_eq_true rfl) (hcs := rfl) (k := ?_)
  refine Seq.p rfl Ev.assign ?_
  refine Seq.p rfl Ev.assign ?_
  refine Seq.nil ?_
  refine JC.rs ?_
  refine Seq.p rfl Ev.move ?_
  refine Seq.p rfl Ev.move ?_
  refine Seq.p rfl (Ev.lenSl sl.sl_uint8 (hr := hr.r)) ?_
  refine Seq.p rfl (Ev.cutHi (h := l.length) sl.sl_uint8) ?_
  refine Seq.callP rfl (v := .tuple #[.agg ev.enc.toArray, .int .i64 m, .int .i64 ff]) (fun w' hw => by have h := msgReadEvent (hpre (by repeat (first | exact At.z | apply At.s)) hw) hB (by omega) (hL.upd hw); rw [hq] at h; exact h) ?_
  refine Seq.p rfl Ev.move ?_
  refine Seq.p rfl Ev.extract ?_
  refine Seq.p rfl Ev.extract ?_
  refine Seq.p rfl Ev.extract ?_
  refine Seq.alloc (cs := [_, _, _, _, _, _, _, _, _, _, _, _, _]) (hz := z.api_Event) (k := ?_); intro b10
  refine Seq.storeTo (cs' := ev.enc) sz.api_Event (hH := At.z) (hfit := Nat.le_of_ble_eq_true rfl) (hcs := rfl) (k := ?_)
  refine Seq.p rfl Ev.assign ?_
  refine Seq.p rfl Ev.assign ?_
  refine Seq.nil ?_
  refine JC.rs ?_
  refine Seq.p rfl Ev.move ?_
  refine Seq.callP rfl (v := .tuple #[.agg ev.enc.toArray, .int .i64 m, .int .i64 ff]) (fun w' hw => by have h := refReadEvent (hr.up hw) hB (by omega); rw [← hq2] at h; exact h) ?_
  refine Seq.p rfl Ev.move ?_
  refine Seq.p rfl Ev.extract ?_
  refine Seq.p rfl Ev.extract ?_
  refine Seq.p rfl Ev.extract ?_
  refine Seq.alloc (cs := [_, _, _, _, _, _, _, _, _, _, _, _, _]) (hz := z.api_Event) (k := ?_); intro b13
  refine Seq.storeTo (cs' := ev.enc) sz.api_Event (hH := At.z) (hfit := Nat.le_of_ble_eq_true rfl) (hcs := rfl) (k := ?_)
  refine Seq.p rfl Ev.assign ?_
  refine Seq.p rfl Ev.assign ?_
  refine Seq.nil ?_
  refine JC.rs ?_
  refine Seq.p rfl (Ev.ldBA (cs := i.enc) ag.api_Input) ?_
  refine Seq.p rfl (Ev.ldBA (cs := i.enc) ag.api_Input) ?_
  refine Seq.p rfl (Ev.eqAg so.api_Input ag.api_Input gd.api_Input) ?_
  refine Seq.p rfl Ev.move ?_
  refine Seq.andG (D := [51, 52, 53, 54, 55]) (d := 51) (t := 55) (k := 4) (hn := fun h51 => ?_) (hx := ?_)
  · repeat (first | refine Seq.gn rfl rfl rfl rfl ?_ | refine Seq.gu rfl rfl rfl ?_)
    refine Seq.p rfl Ev.pickF ?_
    exact Seq.nil ⟨rfl, (by repeat (first | with_reducible exact Off.refl | refine Off.upd ?_ rfl | exact Off.mix | refine Off.mix2 ?_ rfl)), Look.here⟩
  apply Exists.intro
  refine ⟨fun h51 => ?_, fun u55 => ?_⟩
  · try simp only [decide_eq_true_eq, decide_eq_false_iff_not, Bool.and_eq_true, Bool.or_eq_true, Bool.not_eq_true', Bool.not_eq_false', Bool.or_eq_false_iff, Bool.and_eq_false_imp] at h51
    refine Seq.gy rfl rfl rfl ?_
    refine Seq.p rfl Ev.move ?_
    refine Seq.gy rfl rfl rfl ?_
    refine Seq.p rfl Ev.move ?_
    refine Seq.gy rfl rfl rfl ?_
    refine Seq.p rfl Ev.eq ?_
    refine Seq.p rfl Ev.pickT ?_
    exact Seq.nil ⟨rfl, (by repeat (first | with_reducible exact Off.refl | refine Off.upd ?_ rfl | exact Off.mix | refine Off.mix2 ?_ rfl)), Look.here⟩
  refine Seq.p rfl Ev.move ?_
  refine Seq.andG (D := [56, 57, 58, 59, 60]) (d := 56) (t := 60) (k := 4) (hn := fun h56 => ?_) (hx := ?_)
  · repeat (first | refine Seq.gn rfl rfl rfl rfl ?_ | refine Seq.gu rfl rfl rfl ?_)
    refine Seq.p rfl Ev.pickF ?_
    exact Seq.nil ⟨rfl, (by repeat (first | with_reducible exact Off.refl | refine Off.upd ?_ rfl | exact Off.mix | refine Off.mix2 ?_ rfl)), Look.here⟩
  apply Exists.intro
  refine ⟨fun h56 => ?_, fun u60 => ?_⟩
  · try simp only [decide_eq_true_eq, decide_eq_false_iff_not, Bool.and_eq_true, Bool.or_eq_true, Bool.not_eq_true', Bool.not_eq_false', Bool.or_eq_false_iff, Bool.and_eq_false_imp] at h56
    refine Seq.gy rfl rfl rfl ?_
    refine Seq.p rfl Ev.move ?_
    refine Seq.gy rfl rfl rfl ?_
    refine Seq.p rfl Ev.move ?_
    refine Seq.gy rfl rfl rfl ?_
    refine Seq.p rfl Ev.eq ?_
    refine Seq.p rfl Ev.pickT ?_
    exact Seq.nil ⟨rfl, (by repeat (first | with_reducible exact Off.refl | refine Off.upd ?_ rfl | exact Off.mix | refine Off.mix2 ?_ rfl)), Look.here⟩
  refine Seq.p rfl Ev.move ?_
  refine Seq.andG (D := [61, 62, 63, 64, 65]) (d := 61) (t := 65) (k := 4) (hn := fun h61 => ?_) (hx := ?_)
  · repeat (first | refine Seq.gn rfl rfl rfl rfl ?_ | refine Seq.gu rfl rfl rfl ?_)
    refine Seq.p rfl Ev.pickF ?_
    exact Seq.nil ⟨rfl, (by repeat (first | with_reducible exact Off.refl | refine Off.upd ?_ rfl | exact Off.mix | refine Off.mix2 ?_ rfl)), Look.here⟩
  apply Exists.intro
  refine ⟨fun h61 => ?_, fun u65 => ?_⟩
  · try simp only [decide_eq_true_eq, decide_eq_false_iff_not, Bool.and_eq_true, Bool.or_eq_true, Bool.not_eq_true', Bool.not_eq_false', Bool.or_eq_false_iff, Bool.and_eq_false_imp] at h61
    refine Seq.gy rfl rfl rfl ?_
    refine Seq.p rfl (Ev.ldBA (cs := ev.enc) ag.api_Event) ?_
    refine Seq.gy rfl rfl rfl ?_
    refine Seq.p rfl (Ev.ldBA (cs := ev.enc) ag.api_Event) ?_
    refine Seq.gy rfl rfl rfl ?_
    refine Seq.p rfl (Ev.eqAg so.api_Event ag.api_Event gd.api_Event) ?_
    refine Seq.p rfl Ev.pickT ?_
    exact Seq.nil ⟨rfl, (by repeat (first | with_reducible exact Off.refl | refine Off.upd ?_ rfl | exact Off.mix | refine Off.mix2 ?_ rfl)), Look.here⟩
  refine Seq.p rfl Ev.move ?_
  refine Seq.andG (D := [66, 67, 68, 69, 70]) (d := 66) (t := 70) (k := 4) (hn := fun h66 => ?_) (hx := ?_)
  · repeat (first | refine Seq.gn rfl rfl rfl rfl ?_ | refine Seq.gu rfl rfl rfl ?_)
    refine Seq.p rfl Ev.pickF ?_
    exact Seq.nil ⟨rfl, (by repeat (first | with_reducible exact Off.refl | refine Off.upd ?_ rfl | exact Off.mix | refine Off.mix2 ?_ rfl)), Look.here⟩
  apply Exists.intro
  refine ⟨fun h66 => ?_, fun u70 => ?_⟩
  · try simp only [decide_eq_true_eq, decide_eq_false_iff_not, Bool.and_eq_true, Bool.or_eq_true, Bool.not_eq_true', Bool.not_eq_false', Bool.or_eq_false_iff, Bool.and_eq_false_imp] at h66
    refine Seq.gy rfl rfl rfl ?_
    refine Seq.p rfl Ev.move ?_
    refine Seq.gy rfl rfl rfl ?_
    refine Seq.p rfl Ev.move ?_
    refine Seq.gy rfl rfl rfl ?_
    refine Seq.p rfl Ev.eq ?_
    refine Seq.p rfl Ev.pickT ?_
    exact Seq.nil ⟨rfl, (by repeat (first | with_reducible exact Off.refl | refine Off.upd ?_ rfl | exact Off.mix | refine Off.mix2 ?_ rfl)), Look.here⟩
  refine Seq.p rfl Ev.move ?_
  refine Seq.andG (D := [71, 72, 73, 74, 75]) (d := 71) (t := 75) (k := 4) (hn := fun h71 => ?_) (hx := ?_)
  · repeat (first | refine Seq.gn rfl rfl rfl rfl ?_ | refine Seq.gu rfl rfl rfl ?_)
    refine Seq.p rfl Ev.pickF ?_
    exact Seq.nil ⟨rfl, (by repeat (first | with_reducible exact Off.refl | refine Off.upd ?_ rfl | exact Off.mix | refine Off.mix2 ?_ rfl)), Look.here⟩
  apply Exists.intro
  refine ⟨fun h71 => ?_, fun u75 => ?_⟩
  · try simp only [decide_eq_true_eq, decide_eq_false_iff_not, Bool.and_eq_true, Bool.or_eq_true, Bool.not_eq_true', Bool.not_eq_false', Bool.or_eq_false_iff, Bool.and_eq_false_imp] at h71
    refine Seq.gy rfl rfl rfl ?_
    refine Seq.p rfl Ev.move ?_
    refine Seq.gy rfl rfl rfl ?_
    refine Seq.p rfl Ev.move ?_
    refine Seq.gy rfl rfl rfl ?_
    refine Seq.p rfl Ev.eq ?_
    refine Seq.p rfl Ev.pickT ?_
    exact Seq.nil ⟨rfl, (by repeat (first | with_reducible exact Off.refl | refine Off.upd ?_ rfl | exact Off.mix | refine Off.mix2 ?_ rfl)), Look.here⟩
  refine Seq.p rfl Ev.move ?_
  refine Seq.andG (D := [76, 77, 78, 79, 80]) (d := 76) (t := 80) (k := 4) (hn := fun h76 => ?_) (hx := ?_)
  · repeat (first | refine Seq.gn rfl rfl rfl rfl ?_ | refine Seq.gu rfl rfl rfl ?_)
    refine Seq.p rfl Ev.pickF ?_
    exact Seq.nil ⟨rfl, (by repeat (first | with_reducible exact Off.refl | refine Off.upd ?_ rfl | exact Off.mix | refine Off.mix2 ?_ rfl)), Look.here⟩
  apply Exists.intro
  refine ⟨fun h76 => ?_, fun u80 => ?_⟩
  · try simp only [decide_eq_true_eq, decide_eq_false_iff_not, Bool.and_eq_true, Bool.or_eq_true, Bool.not_eq_true', Bool.not_eq_false', Bool.or_eq_false_iff, Bool.and_eq_false_imp] at h76
    refine Seq.gy rfl rfl rfl ?_
    refine Seq.p rfl Ev.move ?_
    refine Seq.gy rfl rfl rfl ?_
    refine Seq.p rfl Ev.move ?_
    refine Seq.gy rfl rfl rfl ?_
    refine Seq.callP rfl (fun w' hw => lawLeft (RAt.up (RAt.own (enc := byteEnc) (xs := l ++ [1, 2, 3, 4, 5]) (hs := by omega)) hw) (hr.up hw) hl) ?_
    refine Seq.p rfl Ev.pickT ?_
    exact Seq.nil ⟨rfl, (by repeat (first | with_reducible exact Off.refl | refine Off.upd ?_ rfl | exact Off.mix | refine Off.mix2 ?_ rfl)), Look.here⟩
  refine Seq.p rfl Ev.assign ?_
  refine Seq.nil ?_
  refine JC.ret ?_
  -- return 0
  show retQ _ _ _ _ _ _ _ _
  refine ret1 (hp := Part.nil _) (hpost := ?_)
  simp [Input.eqL_enc, Event.eqL_enc]
end Go.Rx
