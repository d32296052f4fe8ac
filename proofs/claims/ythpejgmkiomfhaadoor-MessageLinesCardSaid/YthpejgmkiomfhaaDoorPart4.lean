/- Parts of the proof. -/
import Derived.Test.YthpejgmkiomfhaaDoorPart3
import Derived.Test.YthpejgmkiomfhaaDoorRxL2
import Derived.Test.YthpejgmkiomfhaaDoorPart1
import Derived.Test.YthpejgmkiomfhaaDoorRows
import Derived.Below
import Derived.ChangeOld
import Derived.ShutString
set_option linter.unusedVariables false
set_option linter.unusedSimpArgs false
/- An event's line: plain, and as the document tells it. -/
namespace Go.Rx
open Go Go.RowKit Go.Lib Go.Proofs.YthpejgmkiomfhaaDoor
set_option linter.unusedVariables false
set_option linter.unusedSimpArgs false
def evTg (e : Event) (f : RF) : Tg := ⟨f.tag, decS (eventValueF e f.tag).1.toNat⟩
def kindTg (e : Event) : Tg := ⟨150, decS e.kind.toNat⟩
def evTags (e : Event) : List RF → List Tg
  | [] => []
  | f :: r => evTg e f :: kindTg e :: r.map (evTg e)
theorem evTags_snoc (e : Event) {a : List RF} (h : a ≠ []) (f : RF) : evTags e (a ++ [f]) = evTags e a ++ [evTg e f] := by
  cases a with
  | nil => exact absurd rfl h
  | cons x r => simp [evTags]
theorem evTags_len (e : Event) {a : List RF} (h : a ≠ []) : (evTags e a).length = a.length + 1 := by
  cases a with
  | nil => exact absurd rfl h
  | cons x r => simp [evTags]
theorem evTags_le (e : Event) (a : List RF) : (evTags e a).length ≤ a.length + 1 := by
  cases a with
  | nil => exact Nat.zero_le _
  | cons x r => simp [evTags]
theorem evTags_mem (e : Event) {l : List RF} {t : Tg} (h : t ∈ evTags e l) : t = kindTg e ∨ ∃ f ∈ l, t = evTg e f := by
  cases l with
  | nil => cases h
  | cons x r =>
    simp only [evTags, List.mem_cons, List.mem_map] at h
    rcases h with rfl | rfl | ⟨f, hf, rfl⟩
    · exact .inr ⟨x, List.mem_cons_self .., rfl⟩
    · exact .inl rfl
    · exact .inr ⟨f, List.mem_cons_of_mem _ hf, rfl⟩
def evLineF (e : Event) : Int × List Int := if refEvE e = 0 then encF ⟨#[56]⟩ (evTags e (toldRF e.kind)) else (refEvE e, [])
theorem mod_rng (x : Int) : 0 ≤ x % 18446744073709551616 ∧ x % 18446744073709551616 ≤ 18446744073709551615 := by omega
theorem eventValueF_range {e : Event} (hw : e.Wf) (t : Int) : 0 ≤ (eventValueF e t).1 ∧ (eventValueF e t).1 ≤ 18446744073709551615 := by
  obtain ⟨p, hp⟩ : ∃ p, p = eventValueF e t := ⟨_, rfl⟩
  rw [← hp]
  unfold eventValueF at hp
  by_cases h34 : t = 34
  · rw [if_pos h34] at hp; subst hp; exact hw.seq
  rw [if_neg h34] at hp
  by_cases h11 : t = 11
  · rw [if_pos h11] at hp; subst hp; exact hw.id
  rw [if_neg h11] at hp
  by_cases h41 : t = 41
  · rw [if_pos h41] at hp; subst hp; exact hw.target
  rw [if_neg h41] at hp
  by_cases h37 : t = 37
  · rw [if_pos h37] at hp; subst hp; exact hw.other
  rw [if_neg h37] at hp
  by_cases h1 : t = 1
  · rw [if_pos h1] at hp; subst hp; exact mod_rng _
  rw [if_neg h1] at hp
  by_cases h38 : t = 38
  · rw [if_pos h38] at hp; subst hp; exact hw.qty
  rw [if_neg h38] at hp
  by_cases h210 : t = 210
  · rw [if_pos h210] at hp; subst hp; exact hw.peak
  rw [if_neg h210] at hp
  subst hp
  exact mod_rng _
theorem evValsGo_vals {i : Event} : ∀ (l : List RF) (s s' : Event × List Int), evValsGo i l s = some s' → s'.2 = s.2 ++ l.map fun f => (eventValueF i f.tag).1
  | [], s, s', h => by
    simp only [evValsGo, Option.some.injEq] at h
    subst h
    simp
  | f :: r, s, s', h => by
    simp only [evValsGo] at h
    cases hs : evStepF i f s with
    | none => rw [hs] at h; cases h
    | some q =>
      rw [hs] at h
      have h2 := evValsGo_vals r q s' h
      unfold evStepF at hs
      split at hs
      · cases hs
      · split at hs
        · cases hs
        · simp only [Option.some.injEq] at hs
          subst hs
          rw [h2]
          simp
theorem told_tags {k : Int} : ∀ f ∈ toldRF k, f.tag.toNat < 10000 := by
  have h : ((toldRF k).all fun f => decide (f.tag.toNat < 10000)) = true := by
    unfold toldRF
    repeat (first | rfl | split)
  intro f hf
  exact of_decide_eq_true (List.all_eq_true.1 h f hf)
set_option maxHeartbeats 2000000 in
set_option maxRecDepth 100000 in
theorem refEventLine0 {w : World} {e : Event} (hE : ¬ refEvE e = 0) : Spec Go.Proofs.Tryd.prog 9 #[.agg e.enc.toArray] w [] (LinePost (evLineF e)) := by
  have hl : evLineF e = (refEvE e, []) := if_neg hE
  rw [hl]
  refine Spec.enter (fn := Go.Proofs.Tryd.f9) (n := 54) [.agg e.enc.toArray] Go.Proofs.Tryd.func9 (by kernel_rfl) rfl Go.Proofs.Tryd.ntmps9 Go.Proofs.Tryd.results9 rfl (Own.nil _) ?_
  refine JC.re (fun w h => h.nilOwn 5 1) ?_
  refine JC.rs ?_
  refine Seq.box (cs := [_, _, _, _, _, _, _, _, _, _, _, _, _]) (k := ?_); intro b1
  refine Seq.p rfl Ev.assign ?_
  refine Seq.p rfl Ev.assign ?_
  refine Seq.nil ?_
  refine JC.rs ?_
  refine Seq.p rfl (Ev.ldBA ag.api_Event) ?_
  refine Seq.call rfl (fun w hw => refEvValues) (F := _) (by exact List.Perm.refl _) ?_
  intro u N hN
  rw [EvValuesPost, if_neg hE] at hN
  subst hN
  refine Seq.re (fun w h => h.part ⟨N, List.perm_append_comm⟩) ?_
  refine Seq.p rfl Ev.move ?_
  refine Seq.p rfl Ev.extract ?_
  refine Seq.p rfl Ev.extract ?_
  refine Seq.p rfl Ev.assign ?_
  refine Seq.p rfl Ev.assign ?_
  refine Seq.nil ?_
  refine JC.seq ?_
  refine JC.rs ?_
  refine Seq.p rfl Ev.move ?_
  refine Seq.p rfl Ev.ne ?_
  refine Seq.nil ?_
  first | refine JC.c (ht := fun c15 => ?_) (hf := fun c15 => ?_) | refine JC.cb (ht := fun c15 => ?_) (hf := fun c15 => ?_)
  · -- then_t15
    refine JC.rs ?_
    refine Seq.p rfl Ev.move ?_
    refine Seq.p rfl Ev.assign ?_
    refine Seq.p rfl Ev.assign ?_
    refine Seq.nil ?_
    refine JC.ret ?_
    -- return 0
    show retQ _ _ _ _ _ _ _ _
    refine ret2 (H' := [bytesC (.slice none 0 0) []]) (hp := (by repeat (first | exact Part.nil _ | refine Part.at (by repeat (first | exact At.z | apply At.s)) ?_))) (hpost := ?_)
    exact ⟨none, 0, rfl, rfl⟩
  · -- else_t15
    exact absurd hE c15
set_option maxHeartbeats 2000000 in
set_option maxRecDepth 100000 in
theorem refEventLine1 {w : World} {e : Event} (hw0 : e.Wf) (hE : refEvE e = 0) : Spec Go.Proofs.Tryd.prog 9 #[.agg e.enc.toArray] w [] (LinePost (evLineF e)) := by
  have hl : evLineF e = encF ⟨#[56]⟩ (evTags e (toldRF e.kind)) := if_pos hE
  rw [hl]
  have hsm := toldRF_small e.kind
  have htg := told_tags (k := e.kind)
  obtain ⟨l, hl0⟩ : ∃ l, l = toldRF e.kind := ⟨_, rfl⟩
  rw [← hl0]
  rw [← hl0] at hsm htg
  have hn1 : 1 ≤ e.kind ∧ e.kind ≤ 5 := Classical.not_not.1 fun h => by
    have h2 : refEvE e = 41 := if_pos h
    omega
  have hkr : (decS e.kind.toNat).size ≤ 20 := (decS_facts (n := e.kind.toNat) (by omega)).2.1
  have htz : ∀ t ∈ evTags e l, t.tag.toNat < 10000 ∧ t.value.size ≤ 20 := fun t ht => by
    rcases evTags_mem e ht with rfl | ⟨f, hf, rfl⟩
    · exact ⟨by show Int.toNat 150 < _; decide, hkr⟩
    · have hr := eventValueF_range hw0 f.tag
      exact ⟨htg f hf, (decS_facts (n := (eventValueF e f.tag).1.toNat) (by omega)).2.1⟩
  refine Spec.enter (fn := Go.Proofs.Tryd.f9) (n := 54) [.agg e.enc.toArray] Go.Proofs.Tryd.func9 (by kernel_rfl) rfl Go.Proofs.Tryd.ntmps9 Go.Proofs.Tryd.results9 rfl (Own.nil _) ?_
  refine JC.rs ?_
  refine Seq.box (cs := [_, _, _, _, _, _, _, _, _, _, _, _, _]) (k := ?_); intro b1
  refine Seq.p rfl Ev.assign ?_
  refine Seq.p rfl Ev.assign ?_
  refine Seq.nil ?_
  refine JC.rs ?_
  refine Seq.p rfl (Ev.ldBA ag.api_Event) ?_
  refine Seq.call rfl (fun w hw => refEvValues) (F := _) (by exact List.Perm.refl _) ?_
  intro u N hN
  rw [EvValuesPost, if_pos hE] at hN
  obtain ⟨s, A, cc, hn0, hv, rfl, rfl⟩ := hN
  have hls : s.2 = l.map fun f => (eventValueF e f.tag).1 := by have := evValsGo_vals _ _ _ hv; rw [← hl0] at this; simpa using this
  obtain ⟨vs, hvs⟩ : ∃ x, x = s.2 := ⟨_, rfl⟩
  rw [← hvs] at hls
  rw [← hvs]
  have hvl : vs.length = l.length := by rw [hls, List.length_map]
  have hlp : 1 ≤ l.length := by rw [hl0]; exact toldRF_pos hn0
  have hlne : l ≠ [] := fun h => by rw [h] at hlp; simp at hlp
  have hxl := evTags_len e hlne
  have hbd : (bodyL ⟨#[56]⟩ (evTags e l)).length ≤ 1099511627776 := body_short (by decide) (by omega) htz
  obtain ⟨ec, hec⟩ : ∃ x, x = encF ⟨#[56]⟩ (evTags e l) := ⟨_, rfl⟩
  rw [← hec]
  refine Seq.p rfl Ev.move ?_
  refine Seq.p rfl Ev.extract ?_
  refine Seq.p rfl Ev.extract ?_
  refine Seq.p rfl Ev.assign ?_
  refine Seq.p rfl Ev.assign ?_
  refine Seq.nil ?_
  refine JC.seq ?_
  refine JC.rs ?_
  refine Seq.p rfl Ev.move ?_
  refine Seq.p rfl Ev.ne ?_
  refine Seq.nil ?_
  first | refine JC.c (ht := fun c15 => ?_) (hf := fun c15 => ?_) | refine JC.cb (ht := fun c15 => ?_) (hf := fun c15 => ?_)
  · -- then_t15
    exact absurd rfl c15
  · -- else_t15
    refine JC.skip ?_
    refine JC.rs ?_
    refine Seq.p rfl (Ev.faB fd.api_Event_1) ?_
    refine Seq.p rfl (Ev.ldB sc.int) ?_
    refine Seq.call rfl (fun w hw => hl0 ▸ refTold hn0) (F := _) (by exact List.Perm.refl _) ?_
    rintro _ _ ⟨bl, rfl, rfl⟩
    refine Seq.p rfl Ev.assign ?_
    refine Seq.nil ?_
    refine JC.rs ?_
    refine Seq.p rfl Ev.assign ?_
    refine Seq.re (fun w h => Upd.nilOwn h 68 2) ?_
    refine Seq.nil ?_
    refine JC.seq ?_
    refine JC.rs ?_
    refine Seq.p rfl Ev.assign ?_
    refine Seq.nil ?_
    refine JC.blk ?_
    refine JC.loop (α := Nat) (I := fun k e1 H1 => ∃ A2 c2 xs, Has [7, 8, 20, 21, 22, 23, 24, 25, 26, 27, 28, 29, 30, 31, 32, 33, 34, 35, 36, 37, 38, 39, 40, 41, 42, 43, 44, 45, 46, 47, 48, 49] [(8, .int .i64 (k : Int)), (7, .slice A2 xs.length c2)] _ e1 ∧ H1 = [tagsC (.slice A2 xs.length c2) xs, .box bl 65 (l.flatMap RF.enc), .own 22 1 (.slice A vs.length cc) vs.length (vs.flatMap uenc), .box b1 30 e.enc] ∧ k ≤ l.length ∧ xs = evTags e (l.take k)) (μ := fun k => l.length - k) 0 ⟨none, 0, [], Has.mk Off.refl (allLook_cons (by repeat (first | exact Look.here | apply Look.there (hne := rfl) | exact Look.const | apply Look.mix rfl | exact Look.arg0 | apply Look.args | exact Look.func)) (allLook_cons (by repeat (first | exact Look.here | apply Look.there (hne := rfl) | exact Look.const | apply Look.mix rfl | exact Look.arg0 | apply Look.args | exact Look.func)) allLook_nil)), rfl, by omega, rfl⟩ ?_
    rintro k _ _ ⟨A2, c2, xs, ⟨ui, rfl⟩, rfl, hk, hx⟩; dsimp only [setL]
    refine JC.seq ?_
    refine JC.rs ?_
    refine Seq.p rfl Ev.move ?_
    refine Seq.p rfl Ev.move ?_
    refine Seq.p rfl (Ev.lenSl sl.sl_bourseref04_field (hr := RAt.box (enc := RF.enc) (sz := 4) (hs := by omega))) ?_
    refine Seq.p rfl Ev.lt ?_
    refine Seq.nil ?_
    first | refine JC.c (ht := fun c23 => ?_) (hf := fun c23 => ?_) | refine JC.cb (ht := fun c23 => ?_) (hf := fun c23 => ?_)
    · -- then_t23
      have hk2 : k < l.length := by omega
      have hvk : vs[k]! = (eventValueF e (l[k]!).tag).1 := by rw [hls, getElem!_pos _ k (by rw [List.length_map]; exact hk2), List.getElem_map, getElem!_pos l k hk2]
      have hrg := eventValueF_range hw0 (l[k]!).tag
      rw [← hvk] at hrg
      have hdec : ∀ w' : World, Spec Go.Proofs.Tryd.prog 23 #[.int .u64 (vs[k]!)] w' [] (fun u _ => u = .string (decS (vs[k]!).toNat)) := fun w' => by
        have h := refDecimal (w := w') (n := (vs[k]!).toNat) (by omega)
        rw [show (((vs[k]!).toNat : Nat) : Int) = vs[k]! by omega] at h
        exact h
      have hdec2 : ∀ w' : World, Spec Go.Proofs.Tryd.prog 23 #[.int .u64 e.kind] w' [] (fun u _ => u = .string (decS e.kind.toNat)) := fun w' => by
        have h := refDecimal (w := w') (n := e.kind.toNat) (by omega)
        rw [show ((e.kind.toNat : Nat) : Int) = e.kind by omega] at h
        exact h
      have hxk : xs.length ≤ 9 := by rw [hx]; have := evTags_le e (l.take k); rw [List.length_take] at this; omega
      have htk : l.take (k + 1) = l.take k ++ [l[k]!] := by rw [List.take_succ_eq_append_getElem hk2, getElem!_pos l k hk2]
      refine JC.skip ?_
      refine JC.seq ?_
      refine JC.blk ?_
      refine JC.asE 0 mixed ?_
      refine Any.p 0 rfl (by kernel_rfl) (by kernel_rfl) (by kernel_rfl) rfl Ev.move ?_
      refine Any.p 1 rfl (by kernel_rfl) (by kernel_rfl) (by kernel_rfl) rfl Ev.move ?_
      refine Any.p 2 rfl (by kernel_rfl) (by kernel_rfl) (by kernel_rfl) rfl Ev.move ?_
      refine Any.p 3 rfl (by kernel_rfl) (by kernel_rfl) (by kernel_rfl) rfl (Ev.iaN sl.sl_bourseref04_field (hr := RAt.box (enc := RF.enc) (sz := 4) (hs := by omega))) ?_
      refine Any.p 4 rfl (by kernel_rfl) (by kernel_rfl) (by kernel_rfl) rfl (Ev.fa fd.bourseref04_field_0) ?_
      refine Any.p 5 rfl (by kernel_rfl) (by kernel_rfl) (by kernel_rfl) rfl (Ev.ldE sc.int (hr := RAt.box (enc := RF.enc) (sz := 4) (hs := by omega))) ?_
      refine Any.p 6 rfl (by kernel_rfl) (by kernel_rfl) (by kernel_rfl) rfl Ev.move ?_
      refine Any.p 7 rfl (by kernel_rfl) (by kernel_rfl) (by kernel_rfl) rfl Ev.move ?_
      refine Any.p 8 rfl (by kernel_rfl) (by kernel_rfl) (by kernel_rfl) rfl (Ev.iaN sl.sl_uint64 (hr := RAt.own (enc := uenc) (xs := vs) (sz := 1) (hs := by omega))) ?_
      refine Any.p 9 rfl (by kernel_rfl) (by kernel_rfl) (by kernel_rfl) rfl (Ev.ldE1 sc.uint64 (hr := RAt.own (enc := uenc) (xs := vs) (sz := 1) (hs := by omega))) ?_
      refine Any.call 10 rfl (by kernel_rfl) (by kernel_rfl) (by kernel_rfl) rfl (fun w hw => hdec _) ?_
      refine Any.p 11 rfl (by kernel_rfl) (by kernel_rfl) (by kernel_rfl) rfl (Ev.buildN [_, _] pl.api_Tag z.api_Tag) ?_
      refine Any.one 12 rfl (by kernel_rfl) ?_
      refine Seq.buildSlN [_, _] (hsl := sl.sl_api_Tag) (hz := z.api_Tag) (k := ?_); intro b38
      refine Seq.nil ⟨(by repeat (first | exact Part.refl _ | exact Part.nil _ | apply Part.here | apply Part.skip)), ?_⟩
      refine Any.one 13 rfl (by kernel_rfl) ?_
      refine Seq.append (hsl := sl.sl_api_Tag) (he := el.api_Tag) (hsrc := (fun w' hw => Src.box (hl := by rfl) (hc := fun q u hu => hu) sl.sl_api_Tag At.z hw)) (k := ?_); intro A39 c39
      refine Seq.nil ⟨(by repeat (first | exact Part.refl _ | exact Part.nil _ | apply Part.here | apply Part.skip)), ?_⟩
      refine Any.p 14 rfl (by kernel_rfl) (by kernel_rfl) (by kernel_rfl) rfl Ev.assign ?_
      refine Any.done (by kernel_rfl) ?_
      refine JC.rs ?_
      refine Seq.p rfl Ev.move ?_
      refine Seq.p rfl Ev.eq ?_
      refine Seq.nil ?_
      first | refine JC.c (ht := fun c41 => ?_) (hf := fun c41 => ?_) | refine JC.cb (ht := fun c41 => ?_) (hf := fun c41 => ?_)
      · -- then_t41
        obtain rfl : k = 0 := by omega
        have hx0 : xs = [] := by rw [hx]; rfl
        have hxs : xs ++ [evTg e l[0]!] ++ [kindTg e] = evTags e (l.take (0 + 1)) := by rw [hx0, htk]; rfl
        refine JC.reg ?_
        refine Seq.p rfl Ev.move ?_
        refine Seq.p rfl (Ev.faB fd.api_Event_1) ?_
        refine Seq.p rfl (Ev.ldB sc.int) ?_
        refine Seq.p rfl (Ev.convU64 it.int it.uint64) ?_
        refine Seq.callP rfl (fun w hw => hdec2 _) ?_
        refine Seq.p rfl (Ev.buildN [_, _] pl.api_Tag z.api_Tag) ?_
        refine Seq.buildSlN [_, _] (hsl := sl.sl_api_Tag) (hz := z.api_Tag) (k := ?_); intro b48
        refine Seq.append (hsl := sl.sl_api_Tag) (he := el.api_Tag) (hsrc := (fun w' hw => Src.box (hl := by rfl) (hc := fun q u hu => hu) sl.sl_api_Tag At.z hw)) (k := ?_); intro A49 c49
        refine Seq.p rfl Ev.assign ?_
        refine Seq.nil ?_
        refine JC.reg ?_
        refine Seq.p rfl Ev.move ?_
        refine Seq.p rfl (by first | exact Ev.inc | exact Ev.add) ?_
        refine Seq.p rfl Ev.assign ?_
        refine Seq.nil ?_
        first
          | (have hst : tagsC (.slice A49 (xs ++ [evTg e l[0]!] ++ [kindTg e]).length c49) (xs ++ [evTg e l[0]!] ++ [kindTg e]) = .own 68 2 (.slice A49 (xs.length + 1 + 1) c49) (xs.length + 1 + 1) (xs.flatMap Tg.enc ++ [.int .i64 (l[0]!).tag, .string (decS (vs[0]!).toNat)] ++ [.int .i64 150, .string (decS e.kind.toNat)]) := by rw [hvk]; simp [tagsC, Tg.enc, evTg, kindTg, List.flatMap_append]
             exact ⟨0 + 1, [_, _, _, _], Part.skip (Part.skip (Part.refl _)), ⟨A49, c49, xs ++ [evTg e l[0]!] ++ [kindTg e], Has.mk (by repeat (first | refine Off.upd ?_ rfl | exact Off.mix | refine Off.mix2 ?_ rfl | exact Off.refl)) (allLook_cons (by repeat (first | exact Look.here | apply Look.there (hne := rfl) | exact Look.const | apply Look.mix rfl | exact Look.arg0 | apply Look.args | exact Look.func)) (allLook_cons (by rw [List.length_append, List.length_append]; exact (by repeat (first | exact Look.here | apply Look.there (hne := rfl) | exact Look.const | apply Look.mix rfl | exact Look.arg0 | apply Look.args | exact Look.func))) allLook_nil)), by rw [hst], by omega, hxs⟩, by omega⟩)
          | (have hst : tagsC (.slice A39 (xs ++ [evTg e l[k]!]).length c39) (xs ++ [evTg e l[k]!]) = .own 68 2 (.slice A39 (xs.length + 1) c39) (xs.length + 1) (xs.flatMap Tg.enc ++ [.int .i64 (l[k]!).tag, .string (decS (vs[k]!).toNat)]) := by rw [hvk]; simp [tagsC, Tg.enc, evTg, List.flatMap_append]
             exact ⟨k + 1, [_, _, _, _], Part.skip (Part.refl _), ⟨A39, c39, xs ++ [evTg e l[k]!], Has.mk (by repeat (first | refine Off.upd ?_ rfl | exact Off.mix | refine Off.mix2 ?_ rfl | exact Off.refl)) (allLook_cons (by repeat (first | exact Look.here | apply Look.there (hne := rfl) | exact Look.const | apply Look.mix rfl | exact Look.arg0 | apply Look.args | exact Look.func)) (allLook_cons (by rw [List.length_append]; exact (by repeat (first | exact Look.here | apply Look.there (hne := rfl) | exact Look.const | apply Look.mix rfl | exact Look.arg0 | apply Look.args | exact Look.func))) allLook_nil)), by rw [hst], by omega, hxs⟩, by omega⟩)
      · -- else_t41
        have hne : l.take k ≠ [] := fun h => by have := congrArg List.length h; rw [List.length_take, List.length_nil] at this; omega
        have hxs : xs ++ [evTg e l[k]!] = evTags e (l.take (k + 1)) := by rw [htk, evTags_snoc e hne, hx]
        refine JC.skip ?_
        refine JC.reg ?_
        refine Seq.p rfl Ev.move ?_
        refine Seq.p rfl (by first | exact Ev.inc | exact Ev.add) ?_
        refine Seq.p rfl Ev.assign ?_
        refine Seq.nil ?_
        first
          | (have hst : tagsC (.slice A49 (xs ++ [evTg e l[0]!] ++ [kindTg e]).length c49) (xs ++ [evTg e l[0]!] ++ [kindTg e]) = .own 68 2 (.slice A49 (xs.length + 1 + 1) c49) (xs.length + 1 + 1) (xs.flatMap Tg.enc ++ [.int .i64 (l[0]!).tag, .string (decS (vs[0]!).toNat)] ++ [.int .i64 150, .string (decS e.kind.toNat)]) := by rw [hvk]; simp [tagsC, Tg.enc, evTg, kindTg, List.flatMap_append]
             exact ⟨0 + 1, [_, _, _, _], Part.skip (Part.skip (Part.refl _)), ⟨A49, c49, xs ++ [evTg e l[0]!] ++ [kindTg e], Has.mk (by repeat (first | refine Off.upd ?_ rfl | exact Off.mix | refine Off.mix2 ?_ rfl | exact Off.refl)) (allLook_cons (by repeat (first | exact Look.here | apply Look.there (hne := rfl) | exact Look.const | apply Look.mix rfl | exact Look.arg0 | apply Look.args | exact Look.func)) (allLook_cons (by rw [List.length_append, List.length_append]; exact (by repeat (first | exact Look.here | apply Look.there (hne := rfl) | exact Look.const | apply Look.mix rfl | exact Look.arg0 | apply Look.args | exact Look.func))) allLook_nil)), by rw [hst], by omega, hxs⟩, by omega⟩)
          | (have hst : tagsC (.slice A39 (xs ++ [evTg e l[k]!]).length c39) (xs ++ [evTg e l[k]!]) = .own 68 2 (.slice A39 (xs.length + 1) c39) (xs.length + 1) (xs.flatMap Tg.enc ++ [.int .i64 (l[k]!).tag, .string (decS (vs[k]!).toNat)]) := by rw [hvk]; simp [tagsC, Tg.enc, evTg, List.flatMap_append]
             exact ⟨k + 1, [_, _, _, _], Part.skip (Part.refl _), ⟨A39, c39, xs ++ [evTg e l[k]!], Has.mk (by repeat (first | refine Off.upd ?_ rfl | exact Off.mix | refine Off.mix2 ?_ rfl | exact Off.refl)) (allLook_cons (by repeat (first | exact Look.here | apply Look.there (hne := rfl) | exact Look.const | apply Look.mix rfl | exact Look.arg0 | apply Look.args | exact Look.func)) (allLook_cons (by rw [List.length_append]; exact (by repeat (first | exact Look.here | apply Look.there (hne := rfl) | exact Look.const | apply Look.mix rfl | exact Look.arg0 | apply Look.args | exact Look.func))) allLook_nil)), by rw [hst], by omega, hxs⟩, by omega⟩)
    · -- else_t23
      obtain rfl : k = l.length := by omega
      rw [List.take_length] at hx
      refine JC.exit ?_ -- 0
      refine JC.rs ?_
      refine Seq.p rfl Ev.move ?_
      refine Seq.call rfl (fun w' hw => by have h := refEncode (w := w') (kind := ⟨#[56]⟩) (xs := xs) (RAt.up (RAt.own (enc := Tg.enc) (xs := xs) (hs := by rw [hx]; omega)) hw) (by decide) (by rw [hx]; intro t ht; have := (htz t ht).2; omega) (by rw [hx]; exact hbd); rw [hx, ← hec] at h; rw [hx]; exact h) (F := _) (by exact List.Perm.refl _) ?_
      rintro _ _ ⟨A51, c51, rfl, rfl⟩
      simp only [List.cons_append, List.nil_append]
      refine Seq.p rfl Ev.extract ?_
      refine Seq.p rfl Ev.extract ?_
      refine Seq.p rfl Ev.assign ?_
      refine Seq.p rfl Ev.assign ?_
      refine Seq.nil ?_
      refine JC.ret ?_
      -- return 0
      show retQ _ _ _ _ _ _ _ _
      refine ret2 (H' := [bytesC (.slice A51 ec.2.length c51) ec.2]) (hp := (by repeat (first | exact Part.nil _ | refine Part.at (by repeat (first | exact At.z | apply At.s)) ?_))) (hpost := ?_)
      exact ⟨A51, c51, rfl, rfl⟩
theorem refEventLine {w : World} {e : Event} (hw0 : e.Wf) : Spec Go.Proofs.Tryd.prog 9 #[.agg e.enc.toArray] w [] (LinePost (evLineF e)) := by
  by_cases hE : refEvE e = 0
  · exact refEventLine1 hw0 hE
  · exact refEventLine0 hE
end Go.Rx
/- spoil: what was told is written over. -/
namespace Go.Rx
open Go Go.RowKit Go.Lib Go.Proofs.YthpejgmkiomfhaaDoor
set_option linter.unusedVariables false
set_option linter.unusedSimpArgs false
set_option maxHeartbeats 1000000 in
set_option maxRecDepth 100000 in
theorem lawSpoil {w : World} {A : Option Addr} {c : Nat} {l : List Int} (hl : l.length ≤ 140737488351232) (ho : Own w [bytesC (.slice A l.length c) l]) :
    Spec Go.Proofs.Tryd.prog 10 #[.slice A l.length c] w [bytesC (.slice A l.length c) l] (fun u H' => H' = []) := by
  refine Spec.enter (fn := Go.Proofs.Tryd.f10) (n := 15) [.slice A l.length c] Go.Proofs.Tryd.func10 (by kernel_rfl) rfl Go.Proofs.Tryd.ntmps10 Go.Proofs.Tryd.results10 rfl ho ?_
  refine JC.seq ?_
  refine JC.rs ?_
  refine Seq.p rfl Ev.assign ?_
  refine Seq.nil ?_
  refine JC.blk ?_
  refine JC.loop (α := Nat × List Int) (I := fun s e1 H1 => Has [2, 3, 4, 5, 6, 7, 8, 9, 10, 11] [(2, .int .i64 (s.1 : Int))] _ e1 ∧ H1 = [bytesC (.slice A l.length c) s.2] ∧ s.1 ≤ l.length ∧ s.2.length = l.length) (μ := fun s => l.length - s.1) (0, l) ⟨Has.mk Off.refl (allLook_cons (by repeat (first | exact Look.here | apply Look.there (hne := rfl) | exact Look.const | apply Look.mix rfl | exact Look.arg0 | apply Look.args | exact Look.func)) allLook_nil), rfl, by omega, rfl⟩ ?_
  rintro ⟨i, l'⟩ _ _ ⟨⟨u, rfl⟩, rfl, hi, hl'⟩; dsimp only [setL]; dsimp only at hi hl'
  refine JC.seq ?_
  refine JC.rs ?_
  refine Seq.p rfl Ev.move ?_
  refine Seq.p rfl Ev.move ?_
  refine Seq.p rfl (Ev.lenSl sl.sl_uint8 (hr := RAt.own (enc := byteEnc) (xs := l'))) ?_
  refine Seq.p rfl Ev.lt ?_
  refine Seq.nil ?_
  first | refine JC.c (ht := fun c6 => ?_) (hf := fun c6 => ?_) | refine JC.cb (ht := fun c6 => ?_) (hf := fun c6 => ?_)
  · -- then_t6
    have hi2 : i < l'.length := by omega
    refine JC.skip ?_
    refine JC.seq ?_
    refine JC.blk ?_
    refine JC.reg ?_
    refine Seq.p rfl Ev.move ?_
    refine Seq.p rfl Ev.move ?_
    refine Seq.p rfl (Ev.iaN sl.sl_uint8 (hr := RAt.own (enc := byteEnc) (xs := l'))) ?_
    refine Seq.stOwn (enc := byteEnc) (xs := l') (q := i) 238 sz.uint8 (by decide) (h1 := byteOne) (k := ?_)
    refine Seq.nil ?_
    refine JC.reg ?_
    refine Seq.p rfl Ev.move ?_
    refine Seq.p rfl (by first | exact Ev.inc | exact Ev.add) ?_
    refine Seq.p rfl Ev.assign ?_
    refine Seq.nil ?_
    refine ⟨(i + 1, l'.set i 238), _, Part.refl _, ⟨Has.mk (by repeat (first | refine Off.upd ?_ rfl | exact Off.mix | refine Off.mix2 ?_ rfl | exact Off.refl)) (allLook_cons (by repeat (first | exact Look.here | apply Look.there (hne := rfl) | exact Look.const | apply Look.mix rfl | exact Look.arg0 | apply Look.args | exact Look.func)) allLook_nil), rfl, by show i + 1 ≤ l.length; omega, by show (l'.set i 238).length = _; rw [List.length_set]; exact hl'⟩, by show l.length - (i + 1) < l.length - i; omega⟩
  · -- else_t6
    refine JC.exit ?_ -- 0
    refine JC.reg ?_
    refine Seq.p rfl Ev.move ?_
    refine Seq.buildSlN [_, _, _] (hsl := sl.sl_uint8) (hz := z.uint8) (k := ?_); intro b13
    refine Seq.append (hsl := sl.sl_uint8) (he := el.uint8) (hsrc := (fun w' hw => Src.box (hl := by rfl) (hc := fun q u hu => hu) sl.sl_uint8 At.z hw)) (k := ?_); intro A14 c14
    refine Seq.nil ?_
    -- return 0
    first | show retQ _ _ _ _ _ .normal _ _ | (simp only [thenQ, blockQ, ↓reduceIte]; show retQ _ _ _ _ _ .normal _ _)
    exact ⟨[], [], RVs.nil, Part.nil _, rfl⟩
    skip
end Go.Rx
/- An event's line: the program's tags are the document's. -/
namespace Go.Rx
open Go Go.RowKit Go.Lib Go.Proofs.YthpejgmkiomfhaaDoor
set_option linter.unusedVariables false
set_option linter.unusedSimpArgs false
theorem toldEvE_eq {e : Event} (hw : e.Wf) : toldEvE e = refEvE e := by
  have h := congrArg Prod.snd (packEv_eq hw)
  unfold packEvF refPackEvF at h
  by_cases h1 : toldEvE e = 0
  · by_cases h2 : refEvE e = 0
    · rw [h1, h2]
    · rw [if_pos h1, if_neg h2] at h
      exact absurd h.symm h2
  · by_cases h2 : refEvE e = 0
    · rw [if_neg h1, if_pos h2] at h
      exact absurd h h1
    · rw [if_neg h1, if_neg h2] at h
      exact h
theorem toldEv_same {e : Event} {fs : List Fld} (hF : evFieldsF e = some fs) : fs.map tgOf = (toldRF e.kind).map (evTg e) := by
  unfold evFieldsF at hF
  by_cases h1 : e.kind = 1
  · rw [if_pos h1] at hF
    cases hF
    rw [h1]
    rfl
  rw [if_neg h1] at hF
  by_cases h2 : e.kind = 2
  · rw [if_pos h2] at hF
    cases hF
    rw [h2]
    rfl
  rw [if_neg h2] at hF
  by_cases h3 : e.kind = 3
  · rw [if_pos h3] at hF
    cases hF
    rw [h3]
    rfl
  rw [if_neg h3] at hF
  by_cases h4 : e.kind = 4
  · rw [if_pos h4] at hF
    cases hF
    rw [h4]
    rfl
  rw [if_neg h4] at hF
  by_cases h5 : e.kind = 5
  · rw [if_pos h5] at hF
    cases hF
    rw [h5]
    rfl
  rw [if_neg h5] at hF
  cases hF
/-- What slices.Insert puts in at place 1. -/
theorem evTags_ins (e : Event) {l : List RF} (h : l ≠ []) : evTags e l = (l.map (evTg e)).take 1 ++ kindTg e :: (l.map (evTg e)).drop 1 := by
  cases l with
  | nil => exact absurd rfl h
  | cons x r => simp [evTags]
/-- An event's line as the program tells it: its fields with the kind put in at place 1. -/
theorem evLineF_ok {e : Event} {fs : List Fld} (hw : e.Wf) (h : toldEvE e = 0) (hF : evFieldsF e = some fs) : evLineF e = encF ⟨#[56]⟩ ((fs.map tgOf).take 1 ++ kindTg e :: (fs.map tgOf).drop 1) := by
  have h2 : refEvE e = 0 := by rw [← toldEvE_eq hw]; exact h
  have hk := (evFieldsF_small hF).2
  have hne : toldRF e.kind ≠ [] := fun h => by
    have := toldRF_pos hk
    rw [h] at this
    simp at this
  unfold evLineF
  rw [if_pos h2, toldEv_same hF, evTags_ins e hne]
theorem evLineF_err {e : Event} (hw : e.Wf) (h : ¬ toldEvE e = 0) : evLineF e = (toldEvE e, []) := by
  unfold evLineF
  rw [← toldEvE_eq hw, if_neg h]
end Go.Rx
/- slices.Insert at tags: one tag at place 1. -/
namespace Go.Rx
open Go Go.RowKit Go.Lib Go.Proofs.YthpejgmkiomfhaaDoor
set_option linter.unusedVariables false
set_option linter.unusedSimpArgs false
theorem tags_len (xs : List Tg) : (xs.flatMap Tg.enc).length = xs.length * 2 := by
  induction xs with
  | nil => rfl
  | cons x xs ih => rw [List.flatMap_cons, List.length_append, ih, List.length_cons, Nat.add_mul]; show 2 + _ = _; omega
theorem tags_one (xs : List Tg) : ∀ u ∈ xs.flatMap Tg.enc, u.oneCell' = true := by
  intro u hu
  obtain ⟨t, _, ht⟩ := List.mem_flatMap.1 hu
  simp only [Tg.enc, List.mem_cons, List.not_mem_nil, or_false] at ht
  rcases ht with rfl | rfl <;> rfl
theorem ins_grow {a2 R Y zs : List Value} (ha : a2.length = 2) (hY : Y.length = 2) (hz : zs.length = 2 + R.length) :
    let c1 := ((a2 ++ R).take 2 ++ zs).take 2 ++ Y ++ ((a2 ++ R).take 2 ++ zs).drop (2 + Y.length)
    c1.take 4 ++ R ++ c1.drop (4 + R.length) = a2 ++ Y ++ R := by
  intro c1
  have h1 : (a2 ++ R).take 2 = a2 := by rw [← ha]; exact List.take_left
  have hc : c1 = a2 ++ Y ++ zs.drop 2 := by
    show ((a2 ++ R).take 2 ++ zs).take 2 ++ Y ++ ((a2 ++ R).take 2 ++ zs).drop (2 + Y.length) = _
    rw [h1, hY]
    congr 1
    · congr 1
      rw [← ha]; exact List.take_left
    · rw [List.drop_append, List.drop_eq_nil_of_le (by omega), List.nil_append]
      congr 1
      omega
  have h4 : (a2 ++ Y).length = 4 := by rw [List.length_append]; omega
  rw [hc]
  have e1 : (a2 ++ Y ++ zs.drop 2).take 4 = a2 ++ Y := by rw [← h4]; exact List.take_left
  have e2 : (a2 ++ Y ++ zs.drop 2).drop (4 + R.length) = [] := List.drop_eq_nil_of_le (by rw [List.length_append, h4, List.length_drop]; omega)
  rw [e1, e2, List.append_nil]
theorem ins_room {a2 R Y zs : List Value} {k : Nat} (ha : a2.length = 2) (hY : Y.length = 2) (hR : 2 ≤ R.length) (hz : 2 ≤ zs.length) (hk : k = 4 + R.length) :
    let c0 := a2 ++ R ++ zs
    let c1 := c0.take 4 ++ R ++ c0.drop (4 + R.length)
    (c1.take 2 ++ Y ++ c1.drop (2 + Y.length)).take k = a2 ++ Y ++ R := by
  intro c0 c1
  have h4 : (c0.take 4).length = 4 := by rw [List.length_take, List.length_append, List.length_append]; omega
  have h2 : c1.take 2 = a2 := by
    show (c0.take 4 ++ R ++ _).take 2 = a2
    rw [List.append_assoc, List.take_append_of_le_length (by omega), List.take_take]
    show (a2 ++ R ++ zs).take 2 = a2
    rw [List.append_assoc, ← ha]
    exact List.take_left
  have h3 : c1.drop 4 = R ++ c0.drop (4 + R.length) := by
    show (c0.take 4 ++ R ++ _).drop 4 = _
    rw [List.append_assoc]
    exact List.drop_left' h4
  rw [h2, hY, h3, hk]
  have h5 : (a2 ++ Y ++ R).length = 4 + R.length := by simp only [List.length_append]; omega
  rw [← List.append_assoc, ← h5]
  exact List.take_left
set_option maxHeartbeats 2000000 in
set_option maxRecDepth 100000 in
theorem msgInsert {w : World} {A : Option Addr} {c bv : Nat} {y : Tg} {xs : List Tg} (h1 : 1 < xs.length) (h64 : xs.length ≤ 64) (ho : Own w [tagsC (.slice A xs.length c) xs, .box bv 68 y.enc]) :
    Spec Go.Proofs.Tryd.prog 27 #[.slice A xs.length c, .int .i64 1, .slice (some ⟨bv, 0, none⟩) 1 1] w [tagsC (.slice A xs.length c) xs, .box bv 68 y.enc]
      (fun u N => ∃ A' c', u = .slice A' (xs.length + 1) c' ∧ N = [tagsC (.slice A' (xs.length + 1) c') (xs.take 1 ++ y :: xs.drop 1)]) := by
  obtain ⟨x0, r, rfl⟩ : ∃ x0 r, xs = x0 :: r := by cases xs with | nil => simp at h1 | cons x r => exact ⟨x, r, rfl⟩
  have hr1 : 1 ≤ r.length := by simp at h1; omega
  have hr64 : r.length ≤ 63 := by simp at h64; omega
  obtain ⟨n, hn⟩ : ∃ n, n = (x0 :: r).length := ⟨_, rfl⟩
  have hnr : n = r.length + 1 := by rw [hn]; rfl
  have htag : ∀ v l, tagsC v l = .own 68 2 v l.length (l.flatMap Tg.enc) := fun _ _ => rfl
  have hfl : (x0 :: r).flatMap Tg.enc = x0.enc ++ r.flatMap Tg.enc := List.flatMap_cons
  have hlen2 : ((x0 :: r).take 1 ++ y :: (x0 :: r).drop 1).length = n + 1 := by simp; omega
  have hcells : ((x0 :: r).take 1 ++ y :: (x0 :: r).drop 1).flatMap Tg.enc = x0.enc ++ y.enc ++ r.flatMap Tg.enc := by simp
  simp only [htag, hlen2, hcells]
  rw [htag] at ho
  rw [hfl, ← hn] at ho ⊢
  have hRl := tags_len r
  have hRo := tags_one r
  obtain ⟨R, hR⟩ : ∃ R, R = r.flatMap Tg.enc := ⟨_, rfl⟩
  rw [← hR] at ho ⊢ hRl hRo
  have hx0 : x0.enc.length = 2 := rfl
  have hy0 : y.enc.length = 2 := rfl
  obtain ⟨a2, ha2⟩ : ∃ a2, a2 = x0.enc := ⟨_, rfl⟩
  rw [← ha2] at ho ⊢ hx0
  have hy1 : ∀ u ∈ y.enc, u.oneCell' = true := by
    have := tags_one [y]
    simpa using this
  obtain ⟨Y, hYe⟩ : ∃ Y, Y = y.enc := ⟨_, rfl⟩
  rw [← hYe] at ho ⊢ hy0 hy1
  clear hn hfl hcells hlen2 htag h1 h64 ha2 hYe hR
  refine Spec.enter (fn := Go.Proofs.Tryd.f27) (n := 95) [.slice A n c, .int .i64 ((1 : Nat) : Int), .slice (some ⟨bv, 0, none⟩) 1 1] Go.Proofs.Tryd.func27 (by kernel_rfl) rfl Go.Proofs.Tryd.ntmps27 Go.Proofs.Tryd.results27 rfl ho ?_
  refine JC.lens At.z ?_
  intro hnc hcm hxl
  obtain ⟨A', hA'⟩ : ∃ A', A = some A' := by
    cases A with
    | some a => exact ⟨a, rfl⟩
    | none =>
      have := ho.ok _ (List.mem_cons_self ..)
      rcases this.2 with ⟨h0, h1⟩ | ⟨g, off, cap, cur, fr, he, _⟩
      · omega
      · cases he
  subst hA'
  obtain ⟨g, off, sp⟩ := A'
  obtain rfl : sp = none := by
    have := ho.ok _ (List.mem_cons_self ..)
    rcases this.2 with ⟨h0, h1⟩ | ⟨g, off, cap, cur, fr, he, _⟩
    · cases h0
    · cases he; rfl
  have hcm' : c ≤ 9223372036854775807 := by simp only [maxLen] at hcm; omega
  refine JC.rs ?_
  refine Seq.p rfl Ev.assign ?_
  refine Seq.nil ?_
  refine JC.rs ?_
  refine Seq.p rfl Ev.move ?_
  refine Seq.p rfl Ev.move ?_
  refine Seq.p rfl (Ev.cutLo (l := 1) sl.sl_api_Tag) ?_
  refine Seq.nil ?_
  refine JC.rs ?_
  refine Seq.p rfl Ev.move ?_
  refine Seq.p rfl (Ev.lenH sl.sl_api_Tag) ?_
  refine Seq.p rfl Ev.assign ?_
  refine Seq.nil ?_
  refine JC.seq ?_
  refine JC.rs ?_
  refine Seq.p rfl Ev.move ?_
  refine Seq.p rfl Ev.eq ?_
  refine Seq.nil ?_
  first | refine JC.c (ht := fun c16 => ?_) (hf := fun c16 => ?_) | refine JC.cb (ht := fun c16 => ?_) (hf := fun c16 => ?_)
  · -- then_t16
    exact absurd c16 (by decide)
  · -- else_t16
    refine JC.skip ?_
    refine JC.rs ?_
    refine Seq.p rfl Ev.move ?_
    refine Seq.p rfl (Ev.lenH sl.sl_api_Tag) ?_
    refine Seq.p rfl Ev.assign ?_
    refine Seq.nil ?_
    refine JC.seq ?_
    refine JC.rs ?_
    refine Seq.p rfl Ev.move ?_
    refine Seq.p rfl Ev.move ?_
    refine Seq.p rfl Ev.eq ?_
    refine Seq.nil ?_
    first | refine JC.c (ht := fun c22 => ?_) (hf := fun c22 => ?_) | refine JC.cb (ht := fun c22 => ?_) (hf := fun c22 => ?_)
    · -- then_t22
      omega
    · -- else_t22
      refine JC.skip ?_
      refine JC.seq ?_
      refine JC.rs ?_
      refine Seq.p rfl Ev.move ?_
      refine Seq.p rfl Ev.move ?_
      refine Seq.p rfl Ev.addN ?_
      refine Seq.p rfl Ev.move ?_
      refine Seq.p rfl (Ev.capSl sl.sl_api_Tag) ?_
      refine Seq.p rfl Ev.gt ?_
      refine Seq.nil ?_
      first | refine JC.c (ht := fun c31 => ?_) (hf := fun c31 => ?_) | refine JC.cb (ht := fun c31 => ?_) (hf := fun c31 => ?_)
      · -- then_t31
        refine JC.rs ?_
        refine Seq.p rfl Ev.move ?_
        refine Seq.p rfl Ev.move ?_
        refine Seq.p rfl (Ev.cutHi (h := 1) sl.sl_api_Tag) ?_
        refine Seq.p rfl Ev.move ?_
        refine Seq.p rfl Ev.move ?_
        refine Seq.p rfl Ev.addN ?_
        refine Seq.p rfl Ev.move ?_
        refine Seq.p rfl (Ev.as (v' := .int .i64 ((n : Nat) : Int)) (by rw [Nat.add_sub_cancel]) (Ev.subN (a := n + 1) (b := 1))) ?_
        refine Seq.growZeros (q := 1) (m := n) (hsl := sl.sl_api_Tag) (he := el.api_Tag) (hi := it.int) (hH := At.z) (kk := ?_); intro b40 c40 zs hzl
        refine Seq.p rfl Ev.assign ?_
        refine Seq.nil ?_
        refine JC.lens At.z ?_
        intro hnc9 hcm9 hxl9
        refine JC.rs ?_
        refine Seq.p rfl Ev.move ?_
        refine Seq.p rfl Ev.move ?_
        refine Seq.p rfl (Ev.cutLo (l := 1) sl.sl_api_Tag) ?_
        refine Seq.p rfl Ev.move ?_
        refine Seq.copyOwn (off := 0) (o := 1 * 2) (k := 1) (i := 0) (hd := sl.sl_api_Tag) (hH := At.z) (hk := Nat.min_eq_left (by omega)) (hcs := Cells.boxed (off := 0) (At.s (At.s At.z)) (fun j u h => by rw [Nat.zero_add]; exact h)) (hl := hy0) (hpos := by omega) (h1 := hy1) (hfit := by omega) (kk := ?_)
        refine Seq.nil ?_
        refine JC.asE 0 mixed ?_
        refine Any.p 0 rfl (by kernel_rfl) (by kernel_rfl) (by kernel_rfl) rfl Ev.move ?_
        refine Any.p 1 rfl (by kernel_rfl) (by kernel_rfl) (by kernel_rfl) rfl Ev.move ?_
        refine Any.p 2 rfl (by kernel_rfl) (by kernel_rfl) (by kernel_rfl) rfl Ev.move ?_
        refine Any.p 3 rfl (by kernel_rfl) (by kernel_rfl) (by kernel_rfl) rfl Ev.addN ?_
        refine Any.p 4 rfl (by kernel_rfl) (by kernel_rfl) (by kernel_rfl) rfl (Ev.cutLo (l := 1 + 1) sl.sl_api_Tag) ?_
        refine Any.p 5 rfl (by kernel_rfl) (by kernel_rfl) (by kernel_rfl) rfl Ev.move ?_
        refine Any.p 6 rfl (by kernel_rfl) (by kernel_rfl) (by kernel_rfl) rfl Ev.move ?_
        refine Any.p 7 rfl (by kernel_rfl) (by kernel_rfl) (by kernel_rfl) rfl (Ev.cutLo (l := 1) sl.sl_api_Tag) ?_
        refine Any.one 8 rfl (by kernel_rfl) ?_
        refine Seq.copyOwn (off := 0) (o := (1 + 1) * 2) (k := n - 1) (i := 0) (hd := sl.sl_api_Tag) (hH := At.z) (hk := Nat.min_eq_left (by omega)) (hcs := Cells.own (o := 1 * 2) (At.s At.z) (cs := R) (fun j u h => by rw [List.getElem?_append_right (by omega), hx0]; simpa using h)) (hl := by omega) (hpos := by omega) (h1 := hRo) (hfit := by omega) (kk := ?_)
        refine Seq.nil ⟨(by repeat (first | exact Part.refl _ | exact Part.nil _ | apply Part.here | apply Part.skip)), ?_⟩
        refine Any.done (by kernel_rfl) ?_
        refine JC.rs ?_
        refine Seq.p rfl Ev.move ?_
        refine Seq.p rfl Ev.assign ?_
        refine Seq.nil ?_
        refine JC.ret ?_
        -- return 0
        show retQ _ _ _ _ _ _ _ _
        refine ret1 (hp := Part.here (Part.nil _)) (hpost := ?_)
        have h := ins_grow (a2 := a2) (R := R) (Y := Y) (zs := zs) hx0 hy0 (by omega)
        rw [Nat.add_comm n 1]
        exact ⟨_, _, rfl, congrArg (fun l => [Chunk.own 68 2 (.slice (some ⟨b40, 0, none⟩) (1 + n) c40) (1 + n) l]) h⟩
      · -- else_t31
        refine JC.full At.z ?_
        intro zs hzl _ _ _
        have hcl : (c - n) * 2 = c * 2 - n * 2 := Nat.sub_mul ..
        refine JC.skip ?_
        refine JC.rs ?_
        refine Seq.p rfl Ev.move ?_
        refine Seq.p rfl Ev.move ?_
        refine Seq.p rfl Ev.move ?_
        refine Seq.p rfl Ev.addN ?_
        refine Seq.p rfl (Ev.cutHi (h := n + 1) sl.sl_api_Tag) ?_
        refine Seq.p rfl Ev.assign ?_
        refine Seq.nil ?_
        refine JC.seq ?_
        refine JC.rs ?_
        refine Seq.p rfl Ev.move ?_
        refine Seq.p rfl Ev.move ?_
        refine Seq.p rfl Ev.move ?_
        refine Seq.p rfl Ev.move ?_
        refine Seq.p rfl Ev.addN ?_
        refine Seq.p rfl (Ev.cutLo (l := 1 + 1) sl.sl_api_Tag) ?_
        refine Seq.p rfl (Ev.notOver (tS := 56) (tR := 4) (i := 1) (j := 0) (off := off) Go.Proofs.Tryd.func55 (by kernel_rfl) (by kernel_rfl) (by kernel_rfl) (by kernel_rfl) (hd := sl.sl_api_Tag) (hA := At.s At.z) (hB := At.z) (hij := by decide) (hxs := by simp only [List.length_append]; omega)) ?_
        refine Seq.p rfl Ev.not ?_
        refine Seq.nil ?_
        first | refine JC.c (ht := fun c68 => ?_) (hf := fun c68 => ?_) | refine JC.cb (ht := fun c68 => ?_) (hf := fun c68 => ?_)
        · -- then_t68
          refine JC.asE 0 mixed ?_
          refine Any.p 0 rfl (by kernel_rfl) (by kernel_rfl) (by kernel_rfl) rfl Ev.move ?_
          refine Any.p 1 rfl (by kernel_rfl) (by kernel_rfl) (by kernel_rfl) rfl Ev.move ?_
          refine Any.p 2 rfl (by kernel_rfl) (by kernel_rfl) (by kernel_rfl) rfl Ev.move ?_
          refine Any.p 3 rfl (by kernel_rfl) (by kernel_rfl) (by kernel_rfl) rfl Ev.addN ?_
          refine Any.p 4 rfl (by kernel_rfl) (by kernel_rfl) (by kernel_rfl) rfl (Ev.cutLo (l := 1 + 1) sl.sl_api_Tag) ?_
          refine Any.p 5 rfl (by kernel_rfl) (by kernel_rfl) (by kernel_rfl) rfl Ev.move ?_
          refine Any.p 6 rfl (by kernel_rfl) (by kernel_rfl) (by kernel_rfl) rfl Ev.move ?_
          refine Any.p 7 rfl (by kernel_rfl) (by kernel_rfl) (by kernel_rfl) rfl (Ev.cutLo (l := 1) sl.sl_api_Tag) ?_
          refine Any.one 8 rfl (by kernel_rfl) ?_
          refine Seq.copyOwn (off := off) (o := (1 + 1) * 2) (k := n - 1) (i := 0) (hd := sl.sl_api_Tag) (hH := At.z) (hk := (Nat.min_eq_right (by omega)).trans (by omega)) (hcs := Cells.own (o := 1 * 2) At.z (cs := R) (fun j u h => by have h9 := (List.getElem?_eq_some_iff.1 h).1; rw [List.append_assoc, List.getElem?_append_right (by omega), List.getElem?_append_left (by omega), hx0]; simpa using h)) (hl := by omega) (hpos := by omega) (h1 := hRo) (hfit := by omega) (kk := ?_)
          refine Seq.nil ⟨(by repeat (first | exact Part.refl _ | exact Part.nil _ | apply Part.here | apply Part.skip)), ?_⟩
          refine Any.done (by kernel_rfl) ?_
          refine JC.rs ?_
          refine Seq.p rfl Ev.move ?_
          refine Seq.p rfl Ev.move ?_
          refine Seq.p rfl (Ev.cutLo (l := 1) sl.sl_api_Tag) ?_
          refine Seq.p rfl Ev.move ?_
          refine Seq.copyOwn (off := off) (o := 1 * 2) (k := 1) (i := 0) (hd := sl.sl_api_Tag) (hH := At.z) (hk := Nat.min_eq_left (by omega)) (hcs := Cells.boxed (off := 0) (At.s At.z) (fun j u h => by rw [Nat.zero_add]; exact h)) (hl := hy0) (hpos := by omega) (h1 := hy1) (hfit := by omega) (kk := ?_)
          refine Seq.nil ?_
          refine JC.rs ?_
          refine Seq.p rfl Ev.move ?_
          refine Seq.p rfl Ev.assign ?_
          refine Seq.nil ?_
          refine JC.re (fun w h => Upd.short (m := n + 1) h At.z (by omega)) ?_
          refine JC.ret ?_
          -- return 1
          show retQ _ _ _ _ _ _ _ _
          refine ret1 (hp := Part.here (Part.nil _)) (hpost := ?_)
          have h := ins_room (a2 := a2) (R := R) (Y := Y) (zs := zs) (k := (n + 1) * 2) hx0 hy0 (by omega) (by omega) (by omega)
          exact ⟨_, _, rfl, congrArg (fun l => [Chunk.own 68 2 (.slice (some ⟨g, off, none⟩) (n + 1) c) (n + 1) l]) h⟩
        · -- else_t68
          cases c68
end Go.Rx
/- The program's EventLine. -/
namespace Go.Rx
open Go Go.RowKit Go.Lib Go.Proofs.YthpejgmkiomfhaaDoor
set_option linter.unusedVariables false
set_option linter.unusedSimpArgs false
theorem evFieldsF_fine {e : Event} (hw : e.Wf) {fs : List Fld} (h : evFieldsF e = some fs) : 2 ≤ fs.length ∧ ∀ f ∈ fs, f.fine ∧ f.tag.toNat < 10000 := by
  have hup : ∀ t n m : Int, t.toNat < 10000 → (upToF t n m).fine ∧ (upToF t n m).tag.toNat < 10000 := fun t n m ht => ⟨⟨by show 0 ≤ n % _; omega, by show n % _ ≤ _; omega⟩, ht⟩
  have hwh : ∀ t n : Int, t.toNat < 10000 → 0 ≤ n ∧ n ≤ 18446744073709551615 → (wholeF t n).fine ∧ (wholeF t n).tag.toNat < 10000 := fun t n ht hn => ⟨hn, ht⟩
  have h1 := hw.seq
  have h2 := hw.id
  have h3 := hw.other
  have h4 := hw.target
  have h5 := hw.member
  have h6 := hw.qty
  have h7 := hw.peak
  unfold evFieldsF at h
  repeat (first | (split at h) | (simp only [Option.some.injEq] at h; subst h; refine ⟨Nat.le_of_ble_eq_true rfl, fun f hf => ?_⟩; simp only [evFields1, evFields2, evFields3, evFields4, evFields5, List.mem_cons, List.not_mem_nil, or_false] at hf; (repeat (first | (rcases hf with rfl | hf; · first | exact hup _ _ _ (by decide) | exact hwh _ _ (by decide) (by omega)) | (subst hf; first | exact hup _ _ _ (by decide) | exact hwh _ _ (by decide) (by omega))))) | cases h)
set_option maxHeartbeats 2000000 in
set_option maxRecDepth 100000 in
theorem msgEventLine0 {w : World} {e : Event} (hw0 : e.Wf) (hE : ¬ toldEvE e = 0) : Spec Go.Proofs.Tryd.prog 8 #[.agg e.enc.toArray] w [] (LinePost (evLineF e)) := by
  rw [evLineF_err hw0 hE]
  refine Spec.enter (fn := Go.Proofs.Tryd.f8) (n := 31) [.agg e.enc.toArray] Go.Proofs.Tryd.func8 (by kernel_rfl) rfl Go.Proofs.Tryd.ntmps8 Go.Proofs.Tryd.results8 rfl (Own.nil _) ?_
  refine JC.re (fun w h => h.nilOwn 5 1) ?_
  refine JC.rs ?_
  refine Seq.box (cs := [_, _, _, _, _, _, _, _, _, _, _, _, _]) (k := ?_); intro b1
  refine Seq.p rfl Ev.assign ?_
  refine Seq.p rfl Ev.assign ?_
  refine Seq.nil ?_
  refine JC.rs ?_
  refine Seq.p rfl (Ev.ldBA ag.api_Event) ?_
  refine Seq.call rfl (fun w hw => msgToldEv) (F := _) (by exact List.Perm.refl _) ?_
  intro u N hN
  rw [EvToldPost, if_neg hE] at hN
  subst hN
  refine Seq.re (fun w h => h.part ⟨N, List.perm_append_comm⟩) ?_
  refine Seq.p rfl Ev.move ?_
  refine Seq.p rfl Ev.extract ?_
  refine Seq.p rfl Ev.extract ?_
  refine Seq.p rfl Ev.extract ?_
  refine Seq.p rfl Ev.assign ?_
  refine Seq.p rfl Ev.assign ?_
  refine Seq.p rfl Ev.assign ?_
  refine Seq.nil ?_
  refine JC.seq ?_
  refine JC.rs ?_
  refine Seq.p rfl Ev.move ?_
  refine Seq.p rfl Ev.ne ?_
  refine Seq.nil ?_
  first | refine JC.c (ht := fun c15 => ?_) (hf := fun c15 => ?_) | refine JC.cb (ht := fun c15 => ?_) (hf := fun c15 => ?_)
  · -- then_t15
    refine JC.rs ?_
    refine Seq.p rfl Ev.move ?_
    refine Seq.p rfl Ev.assign ?_
    refine Seq.p rfl Ev.assign ?_
    refine Seq.nil ?_
    refine JC.ret ?_
    -- return 0
    show retQ _ _ _ _ _ _ _ _
    refine ret2 (H' := [bytesC (.slice none 0 0) []]) (hp := (by repeat (first | exact Part.nil _ | refine Part.at (by repeat (first | exact At.z | apply At.s)) ?_))) (hpost := ?_)
    exact ⟨none, 0, rfl, rfl⟩
  · -- else_t15
    exact absurd hE c15
set_option maxHeartbeats 2000000 in
set_option maxRecDepth 100000 in
theorem msgEventLine1 {w : World} {e : Event} (hw0 : e.Wf) (hE : toldEvE e = 0) (hL : LaidT w) : Spec Go.Proofs.Tryd.prog 8 #[.agg e.enc.toArray] w [] (LinePost (evLineF e)) := by
  refine Spec.enter (fn := Go.Proofs.Tryd.f8) (n := 31) [.agg e.enc.toArray] Go.Proofs.Tryd.func8 (by kernel_rfl) rfl Go.Proofs.Tryd.ntmps8 Go.Proofs.Tryd.results8 rfl (Own.nil _) ?_
  refine JC.rs ?_
  refine Seq.box (cs := [_, _, _, _, _, _, _, _, _, _, _, _, _]) (k := ?_); intro b1
  refine Seq.p rfl Ev.assign ?_
  refine Seq.p rfl Ev.assign ?_
  refine Seq.nil ?_
  refine JC.rs ?_
  refine Seq.p rfl (Ev.ldBA ag.api_Event) ?_
  refine Seq.call rfl (fun w hw => msgToldEv) (F := _) (by exact List.Perm.refl _) ?_
  intro u N hN
  rw [EvToldPost, if_pos hE] at hN
  obtain ⟨fs, A, cc, b3, hF, rfl, rfl⟩ := hN
  have hll := evLineF_ok hw0 hE hF
  obtain ⟨hf2, hfi⟩ := evFieldsF_fine hw0 hF
  obtain ⟨h8, hk⟩ := evFieldsF_small hF
  obtain ⟨xs, hxs⟩ : ∃ x, x = fs.map tgOf := ⟨_, rfl⟩
  have hxl : xs.length = fs.length := by rw [hxs, List.length_map]
  have hkr : (decS e.kind.toNat).size ≤ 20 := (decS_facts (n := e.kind.toNat) (by omega)).2.1
  have hxf : ∀ t ∈ xs, t.tag.toNat < 10000 ∧ t.value.size ≤ 20 := fun t ht => by
    rw [hxs] at ht
    obtain ⟨f, hf, rfl⟩ := List.mem_map.1 ht
    exact ⟨(hfi f hf).2, tgOf_fine (hfi f hf).1⟩
  rw [← hxs] at hll
  have hyl : (xs.take 1 ++ kindTg e :: xs.drop 1).length = xs.length + 1 := by simp; omega
  have hyf : ∀ t ∈ xs.take 1 ++ kindTg e :: xs.drop 1, t.tag.toNat < 10000 ∧ t.value.size ≤ 20 := fun t ht => by
    rw [List.mem_append, List.mem_cons] at ht
    rcases ht with ht | rfl | ht
    · exact hxf t (List.mem_of_mem_take ht)
    · exact ⟨by show Int.toNat 150 < _; decide, hkr⟩
    · exact hxf t (List.mem_of_mem_drop ht)
  have hbd := body_short (kind := ⟨#[56]⟩) (by decide) (show (xs.take 1 ++ kindTg e :: xs.drop 1).length ≤ 64 by omega) hyf
  obtain ⟨ys, hys⟩ : ∃ ys, ys = xs.take 1 ++ kindTg e :: xs.drop 1 := ⟨_, rfl⟩
  have hins : ∀ {w : World} {A : Option Addr} {c bv : Nat}, Own w [tagsC (.slice A xs.length c) xs, .box bv 68 (kindTg e).enc] → Spec Go.Proofs.Tryd.prog 27 #[.slice A xs.length c, .int .i64 1, .slice (some ⟨bv, 0, none⟩) 1 1] w [tagsC (.slice A xs.length c) xs, .box bv 68 (kindTg e).enc] (fun u N => ∃ A' c', u = .slice A' (xs.length + 1) c' ∧ N = [tagsC (.slice A' (xs.length + 1) c') ys]) := fun ho => hys ▸ msgInsert (by omega) (by omega) ho
  rw [← hys] at hll hyl hyf hbd
  rw [hll]
  obtain ⟨ec, hec⟩ : ∃ x, x = encF ⟨#[56]⟩ ys := ⟨_, rfl⟩
  rw [← hec]
  have hdec : ∀ {w' : World} {H : List Chunk}, Upd w w' [] H → Spec Go.Proofs.Tryd.prog 28 #[.int .u64 e.kind] w' [] (fun u _ => u = .string (decS e.kind.toNat)) := fun hw => by
    have h := textDecimal (u := e.kind.toNat) (by omega) (hL.upd hw)
    rw [show ((e.kind.toNat : Nat) : Int) = e.kind by omega] at h
    exact h
  refine Seq.p rfl Ev.move ?_
  refine Seq.p rfl Ev.extract ?_
  refine Seq.p rfl Ev.extract ?_
  refine Seq.p rfl Ev.extract ?_
  refine Seq.p rfl Ev.assign ?_
  refine Seq.p rfl Ev.assign ?_
  refine Seq.p rfl Ev.assign ?_
  refine Seq.nil ?_
  refine JC.seq ?_
  refine JC.rs ?_
  refine Seq.p rfl Ev.move ?_
  refine Seq.p rfl Ev.ne ?_
  refine Seq.nil ?_
  first | refine JC.c (ht := fun c15 => ?_) (hf := fun c15 => ?_) | refine JC.cb (ht := fun c15 => ?_) (hf := fun c15 => ?_)
  · -- then_t15
    exact absurd rfl c15
  · -- else_t15
    refine JC.skip ?_
    refine JC.rs ?_
    refine Seq.p rfl Ev.move ?_
    refine Seq.call rfl (fun w' hw => by have h := msgTagged (w := w') (fs := fs) (RAt.up (RAt.own (enc := Fld.enc) (sz := 3) (hs := by omega)) hw) (fun f hf => (hfi f hf).1) (by omega) (hL.upd hw); rw [← hxs] at h; exact h) (F := _) (by exact List.Perm.refl _) ?_
    rintro _ _ ⟨A18, c18, rfl, rfl⟩
    simp only [List.cons_append, List.nil_append]
    refine Seq.p rfl Ev.assign ?_
    refine Seq.nil ?_
    refine JC.rs ?_
    refine Seq.p rfl Ev.move ?_
    refine Seq.p rfl (Ev.faB fd.api_Event_1) ?_
    refine Seq.p rfl (Ev.ldB sc.int) ?_
    refine Seq.p rfl (Ev.convU64 it.int it.uint64) ?_
    refine Seq.callP rfl (fun w hw => hdec hw) ?_
    refine Seq.p rfl (Ev.buildN (kindTg e).enc pl.api_Tag z.api_Tag) ?_
    refine Seq.buildSlN (kindTg e).enc (hsl := sl.sl_api_Tag) (hz := z.api_Tag) (k := ?_); intro b25
    refine Seq.call rfl (fun w' hw => hins ((hw.part ⟨_, List.Perm.swap _ _ _⟩).own)) (F := _) (by exact List.Perm.swap _ _ _) ?_
    rintro _ _ ⟨A26, c26, rfl, rfl⟩
    simp only [List.cons_append, List.nil_append]
    rw [← hyl]
    refine Seq.p rfl Ev.assign ?_
    refine Seq.nil ?_
    refine JC.rs ?_
    refine Seq.p rfl Ev.move ?_
    refine Seq.call rfl (fun w' hw => by have h := textEncode (w := w') (kind := ⟨#[56]⟩) (xs := ys) (RAt.up (RAt.own (enc := Tg.enc) (xs := ys) (hs := by omega)) hw) (by decide) (fun t ht => by have := (hyf t ht).2; omega) hbd (hL.upd hw); rw [← hec] at h; exact h) (F := _) (by exact List.Perm.refl _) ?_
    rintro _ _ ⟨A28, c28, rfl, rfl⟩
    simp only [List.cons_append, List.nil_append]
    refine Seq.p rfl Ev.extract ?_
    refine Seq.p rfl Ev.extract ?_
    refine Seq.p rfl Ev.assign ?_
    refine Seq.p rfl Ev.assign ?_
    refine Seq.nil ?_
    refine JC.ret ?_
    -- return 0
    show retQ _ _ _ _ _ _ _ _
    refine ret2 (H' := [bytesC (.slice A28 ec.2.length c28) ec.2]) (hp := (by repeat (first | exact Part.nil _ | refine Part.at (by repeat (first | exact At.z | apply At.s)) ?_))) (hpost := ?_)
    exact ⟨A28, c28, rfl, rfl⟩
theorem msgEventLine {w : World} {e : Event} (hw0 : e.Wf) (hL : LaidT w) : Spec Go.Proofs.Tryd.prog 8 #[.agg e.enc.toArray] w [] (LinePost (evLineF e)) := by
  by_cases hE : toldEvE e = 0
  · exact msgEventLine1 hw0 hE hL
  · exact msgEventLine0 hw0 hE
end Go.Rx
/- The law bourselaw04.MessageLines gives true. -/
namespace Go.Rx
open Go Go.RowKit Go.Lib Go.Proofs.YthpejgmkiomfhaaDoor
set_option linter.unusedVariables false
set_option linter.unusedSimpArgs false
theorem lineF_len (i : Input) : (lineF i).2.length ≤ 2048 := by
  unfold lineF
  split
  · split
    · exact encF_len _ _
    · exact Nat.zero_le _
  · exact Nat.zero_le _
theorem evLineF_len (e : Event) : (evLineF e).2.length ≤ 2048 := by
  unfold evLineF
  split
  · exact encF_len _ _
  · exact Nat.zero_le _
set_option maxHeartbeats 2000000 in
set_option maxRecDepth 100000 in
theorem lawLines {w : World} {i : Input} {v : Event} (hi : i.Wf) (hv : v.Wf) (hL : LaidT w) :
    Spec Go.Proofs.Tryd.prog 3 #[.agg i.enc.toArray, .agg v.enc.toArray] w [] (fun u _ => u = .bool true) := by
  obtain ⟨p, hp⟩ : ∃ p, p = lineF i := ⟨_, rfl⟩
  obtain ⟨q, hq⟩ : ∃ q, q = evLineF v := ⟨_, rfl⟩
  have hpl := lineF_len i
  have hql := evLineF_len v
  rw [← hp] at hpl
  rw [← hq] at hql
  refine Spec.enter (fn := Go.Proofs.Tryd.f3) (n := 85) [.agg i.enc.toArray, .agg v.enc.toArray] Go.Proofs.Tryd.func3 (by kernel_rfl) rfl Go.Proofs.Tryd.ntmps3 Go.Proofs.Tryd.results3 rfl (Own.nil _) ?_
  refine JC.rs ?_
  refine Seq.box (cs := [_, _, _, _, _, _, _, _, _, _, _]) (k := ?_); intro b2
  refine Seq.box (cs := [_, _, _, _, _, _, _, _, _, _, _, _, _]) (k := ?_); intro b3
  refine Seq.p rfl Ev.assign ?_
  refine Seq.nil ?_
  refine JC.rs ?_
  refine Seq.p rfl (Ev.ldBA ag.api_Input) ?_
  refine Seq.call rfl (fun w' hw => by have h := msgLine (w := w') hi (hL.upd hw); rw [← hp] at h; exact h) (F := _) (by exact List.Perm.refl _) ?_
  rintro _ _ ⟨A19, c19, rfl, rfl⟩
  simp only [List.cons_append, List.nil_append]
  refine Seq.p rfl Ev.move ?_
  refine Seq.p rfl Ev.extract ?_
  refine Seq.p rfl Ev.extract ?_
  refine Seq.p rfl Ev.assign ?_
  refine Seq.p rfl Ev.assign ?_
  refine Seq.nil ?_
  refine JC.rs ?_
  refine Seq.p rfl (Ev.ldBA ag.api_Input) ?_
  refine Seq.call rfl (fun w' hw => by have h := msgLine (w := w') hi (hL.upd hw); rw [← hp] at h; exact h) (F := _) (by exact List.Perm.refl _) ?_
  rintro _ _ ⟨A24, c24, rfl, rfl⟩
  simp only [List.cons_append, List.nil_append]
  refine Seq.p rfl Ev.move ?_
  refine Seq.p rfl Ev.extract ?_
  refine Seq.p rfl Ev.extract ?_
  refine Seq.p rfl Ev.assign ?_
  refine Seq.p rfl Ev.assign ?_
  refine Seq.nil ?_
  refine JC.rs ?_
  refine Seq.p rfl (Ev.ldBA ag.api_Input) ?_
  refine Seq.call rfl (fun w' hw => by have h := refLine (w := w') hi; rw [← hp] at h; exact h) (F := _) (by exact List.Perm.refl _) ?_
  rintro _ _ ⟨A29, c29, rfl, rfl⟩
  simp only [List.cons_append, List.nil_append]
  refine Seq.p rfl Ev.move ?_
  refine Seq.p rfl Ev.extract ?_
  refine Seq.p rfl Ev.extract ?_
  refine Seq.p rfl Ev.assign ?_
  refine Seq.p rfl Ev.assign ?_
  refine Seq.nil ?_
  refine JC.rs ?_
  refine Seq.p rfl (Ev.ldBA ag.api_Event) ?_
  refine Seq.call rfl (fun w' hw => by have h := msgEventLine (w := w') hv (hL.upd hw); rw [← hq] at h; exact h) (F := _) (by exact List.Perm.refl _) ?_
  rintro _ _ ⟨A34, c34, rfl, rfl⟩
  simp only [List.cons_append, List.nil_append]
  refine Seq.p rfl Ev.move ?_
  refine Seq.p rfl Ev.extract ?_
  refine Seq.p rfl Ev.extract ?_
  refine Seq.p rfl Ev.assign ?_
  refine Seq.p rfl Ev.assign ?_
  refine Seq.nil ?_
  refine JC.rs ?_
  refine Seq.p rfl (Ev.ldBA ag.api_Event) ?_
  refine Seq.call rfl (fun w' hw => by have h := msgEventLine (w := w') hv (hL.upd hw); rw [← hq] at h; exact h) (F := _) (by exact List.Perm.refl _) ?_
  rintro _ _ ⟨A39, c39, rfl, rfl⟩
  simp only [List.cons_append, List.nil_append]
  refine Seq.p rfl Ev.move ?_
  refine Seq.p rfl Ev.extract ?_
  refine Seq.p rfl Ev.extract ?_
  refine Seq.p rfl Ev.assign ?_
  refine Seq.p rfl Ev.assign ?_
  refine Seq.nil ?_
  refine JC.rs ?_
  refine Seq.p rfl (Ev.ldBA ag.api_Event) ?_
  refine Seq.call rfl (fun w' hw => by have h := refEventLine (w := w') hv; rw [← hq] at h; exact h) (F := _) (by exact List.Perm.refl _) ?_
  rintro _ _ ⟨A44, c44, rfl, rfl⟩
  simp only [List.cons_append, List.nil_append]
  refine Seq.p rfl Ev.move ?_
  refine Seq.p rfl Ev.extract ?_
  refine Seq.p rfl Ev.extract ?_
  refine Seq.p rfl Ev.assign ?_
  refine Seq.p rfl Ev.assign ?_
  refine Seq.nil ?_
  refine JC.seq ?_
  refine JC.rs ?_
  refine Seq.p rfl Ev.move ?_
  refine Seq.p rfl Ev.move ?_
  refine Seq.p rfl Ev.ne ?_
  refine Seq.p rfl Ev.move ?_
  refine Seq.orG (D := [50, 51, 52, 53, 54]) (d := 50) (t := 54) (k := 4) (hn := fun h50 => ?_) (hx := ?_)
  · repeat (first | refine Seq.gn rfl rfl rfl rfl ?_ | refine Seq.gu rfl rfl rfl ?_)
    refine Seq.p rfl Ev.pickT ?_
    exact Seq.nil ⟨rfl, (by repeat (first | with_reducible exact Off.refl | refine Off.upd ?_ rfl | exact Off.mix | refine Off.mix2 ?_ rfl)), Look.here⟩
  apply Exists.intro
  refine ⟨fun h50 => ?_, fun u54 => ?_⟩
  · try simp only [decide_eq_true_eq, decide_eq_false_iff_not, Bool.and_eq_true, Bool.or_eq_true, Bool.not_eq_true', Bool.not_eq_false', Bool.or_eq_false_iff, Bool.and_eq_false_imp] at h50
    refine Seq.gy rfl rfl rfl ?_
    refine Seq.p rfl Ev.move ?_
    refine Seq.gy rfl rfl rfl ?_
    refine Seq.p rfl Ev.move ?_
    refine Seq.gy rfl rfl rfl ?_
    refine Seq.p rfl Ev.ne ?_
    refine Seq.p rfl Ev.pickF ?_
    exact Seq.nil ⟨rfl, (by repeat (first | with_reducible exact Off.refl | refine Off.upd ?_ rfl | exact Off.mix | refine Off.mix2 ?_ rfl)), Look.here⟩
  refine Seq.p rfl Ev.move ?_
  refine Seq.orG (D := [55, 56, 57, 58, 59, 60, 61]) (d := 55) (t := 61) (k := 6) (hn := fun h55 => ?_) (hx := ?_)
  · repeat (first | refine Seq.gn rfl rfl rfl rfl ?_ | refine Seq.gu rfl rfl rfl ?_)
    refine Seq.p rfl Ev.pickT ?_
    exact Seq.nil ⟨rfl, (by repeat (first | with_reducible exact Off.refl | refine Off.upd ?_ rfl | exact Off.mix | refine Off.mix2 ?_ rfl)), Look.here⟩
  apply Exists.intro
  refine ⟨fun h55 => ?_, fun u61 => ?_⟩
  · try simp only [decide_eq_true_eq, decide_eq_false_iff_not, Bool.and_eq_true, Bool.or_eq_true, Bool.not_eq_true', Bool.not_eq_false', Bool.or_eq_false_iff, Bool.and_eq_false_imp] at h55
    refine Seq.gy rfl rfl rfl ?_
    refine Seq.p rfl Ev.move ?_
    refine Seq.gy rfl rfl rfl ?_
    refine Seq.p rfl (Ev.strOf (l := p.2) sl.sl_uint8 it.uint8 st.string (hr := RAt.own (enc := byteEnc) (xs := p.2))) ?_
    refine Seq.gy rfl rfl rfl ?_
    refine Seq.p rfl Ev.move ?_
    refine Seq.gy rfl rfl rfl ?_
    refine Seq.p rfl (Ev.strOf (l := p.2) sl.sl_uint8 it.uint8 st.string (hr := RAt.own (enc := byteEnc) (xs := p.2))) ?_
    refine Seq.gy rfl rfl rfl ?_
    refine Seq.p rfl Ev.neStr ?_
    refine Seq.p rfl Ev.pickF ?_
    exact Seq.nil ⟨rfl, (by repeat (first | with_reducible exact Off.refl | refine Off.upd ?_ rfl | exact Off.mix | refine Off.mix2 ?_ rfl)), Look.here⟩
  refine Seq.p rfl Ev.move ?_
  refine Seq.orG (D := [62, 63, 64, 65, 66, 67, 68]) (d := 62) (t := 68) (k := 6) (hn := fun h62 => ?_) (hx := ?_)
  · repeat (first | refine Seq.gn rfl rfl rfl rfl ?_ | refine Seq.gu rfl rfl rfl ?_)
    refine Seq.p rfl Ev.pickT ?_
    exact Seq.nil ⟨rfl, (by repeat (first | with_reducible exact Off.refl | refine Off.upd ?_ rfl | exact Off.mix | refine Off.mix2 ?_ rfl)), Look.here⟩
  apply Exists.intro
  refine ⟨fun h62 => ?_, fun u68 => ?_⟩
  · try simp only [decide_eq_true_eq, decide_eq_false_iff_not, Bool.and_eq_true, Bool.or_eq_true, Bool.not_eq_true', Bool.not_eq_false', Bool.or_eq_false_iff, Bool.and_eq_false_imp] at h62
    refine Seq.gy rfl rfl rfl ?_
    refine Seq.p rfl Ev.move ?_
    refine Seq.gy rfl rfl rfl ?_
    refine Seq.p rfl (Ev.strOf (l := q.2) sl.sl_uint8 it.uint8 st.string (hr := RAt.own (enc := byteEnc) (xs := q.2))) ?_
    refine Seq.gy rfl rfl rfl ?_
    refine Seq.p rfl Ev.move ?_
    refine Seq.gy rfl rfl rfl ?_
    refine Seq.p rfl (Ev.strOf (l := q.2) sl.sl_uint8 it.uint8 st.string (hr := RAt.own (enc := byteEnc) (xs := q.2))) ?_
    refine Seq.gy rfl rfl rfl ?_
    refine Seq.p rfl Ev.neStr ?_
    refine Seq.p rfl Ev.pickF ?_
    exact Seq.nil ⟨rfl, (by repeat (first | with_reducible exact Off.refl | refine Off.upd ?_ rfl | exact Off.mix | refine Off.mix2 ?_ rfl)), Look.here⟩
  refine Seq.nil ?_
  first | refine JC.c (ht := fun c68 => ?_) (hf := fun c68 => ?_) | refine JC.cb (ht := fun c68 => ?_) (hf := fun c68 => ?_)
  · -- then_t68
    exfalso
    simp at c68
  · -- else_t68
    refine JC.skip ?_
    refine JC.rs ?_
    refine Seq.p rfl Ev.move ?_
    refine Seq.call (F := List.eraseIdx _ 5) rfl (fun w' hw => lawSpoil (l := p.2) (by omega) ((hw.part ⟨_, At.perm (At.s (At.s (At.s (At.s (At.s At.z)))))⟩).own)) (At.perm (At.s (At.s (At.s (At.s (At.s At.z)))))) ?_
    rintro _ _ rfl
    simp only [List.nil_append, List.eraseIdx_cons_succ, List.eraseIdx_cons_zero, List.eraseIdx_zero, List.tail_cons]
    refine Seq.nil ?_
    refine JC.rs ?_
    refine Seq.p rfl Ev.move ?_
    refine Seq.call (F := List.eraseIdx _ 2) rfl (fun w' hw => lawSpoil (l := q.2) (by omega) ((hw.part ⟨_, At.perm (At.s (At.s At.z))⟩).own)) (At.perm (At.s (At.s At.z))) ?_
    rintro _ _ rfl
    simp only [List.nil_append, List.eraseIdx_cons_succ, List.eraseIdx_cons_zero, List.eraseIdx_zero, List.tail_cons]
    refine Seq.nil ?_
    refine JC.rs ?_
    refine Seq.p rfl Ev.move ?_
    refine Seq.p rfl (Ev.strOf (l := p.2) sl.sl_uint8 it.uint8 st.string (hr := RAt.own (enc := byteEnc) (xs := p.2))) ?_
    refine Seq.p rfl Ev.move ?_
    refine Seq.p rfl (Ev.strOf (l := p.2) sl.sl_uint8 it.uint8 st.string (hr := RAt.own (enc := byteEnc) (xs := p.2))) ?_
    refine Seq.p rfl Ev.eqStr ?_
    refine Seq.p rfl Ev.move ?_
    refine Seq.andG (D := [78, 79, 80, 81, 82, 83, 84]) (d := 78) (t := 84) (k := 6) (hn := fun h78 => ?_) (hx := ?_)
    · repeat (first | refine Seq.gn rfl rfl rfl rfl ?_ | refine Seq.gu rfl rfl rfl ?_)
      refine Seq.p rfl Ev.pickF ?_
      exact Seq.nil ⟨rfl, (by repeat (first | with_reducible exact Off.refl | refine Off.upd ?_ rfl | exact Off.mix | refine Off.mix2 ?_ rfl)), Look.here⟩
    apply Exists.intro
    refine ⟨fun h78 => ?_, fun u84 => ?_⟩
    · try simp only [decide_eq_true_eq, decide_eq_false_iff_not, Bool.and_eq_true, Bool.or_eq_true, Bool.not_eq_true', Bool.not_eq_false', Bool.or_eq_false_iff, Bool.and_eq_false_imp] at h78
      refine Seq.gy rfl rfl rfl ?_
      refine Seq.p rfl Ev.move ?_
      refine Seq.gy rfl rfl rfl ?_
      refine Seq.p rfl (Ev.strOf (l := q.2) sl.sl_uint8 it.uint8 st.string (hr := RAt.own (enc := byteEnc) (xs := q.2))) ?_
      refine Seq.gy rfl rfl rfl ?_
      refine Seq.p rfl Ev.move ?_
      refine Seq.gy rfl rfl rfl ?_
      refine Seq.p rfl (Ev.strOf (l := q.2) sl.sl_uint8 it.uint8 st.string (hr := RAt.own (enc := byteEnc) (xs := q.2))) ?_
      refine Seq.gy rfl rfl rfl ?_
      refine Seq.p rfl Ev.eqStr ?_
      refine Seq.p rfl Ev.pickT ?_
      exact Seq.nil ⟨rfl, (by repeat (first | with_reducible exact Off.refl | refine Off.upd ?_ rfl | exact Off.mix | refine Off.mix2 ?_ rfl)), Look.here⟩
    refine Seq.p rfl Ev.assign ?_
    refine Seq.nil ?_
    refine JC.ret ?_
    -- return 0
    show retQ _ _ _ _ _ _ _ _
    refine ret1 (hp := Part.nil _) (hpost := ?_)
    simp
end Go.Rx
namespace Go.Rx
open Go Go.RowKit
set_option linter.unusedVariables false
set_option linter.unusedSimpArgs false
def andU (a b : Int) : Int := IntKind.u64.wrap ((BitVec.ofInt IntKind.u64.bits a &&& BitVec.ofInt IntKind.u64.bits b).toNat : Nat)
def down (a n : Int) : Int := a / 2 ^ (min n.toNat IntKind.u64.bits)
def someF (fs : List Fld) (m : List (Int × Int)) : List (Int × Int) := fs.foldl (fun r f => iput r f.tag (iget m f.tag)) []
theorem someF_snoc (fs : List Fld) (m : List (Int × Int)) (i : Nat) (h : i < fs.length) : someF (fs.take (i + 1)) m = iput (someF (fs.take i) m) fs[i]!.tag (iget m fs[i]!.tag) := by
  have : fs.take (i + 1) = fs.take i ++ [fs[i]!] := by
    rw [List.take_succ_eq_append_getElem h, getElem!_pos fs i h]
  rw [this]
  unfold someF
  rw [List.foldl_append]
  rfl
def MapPost (m : List (Int × Int)) (u : Value) (N : List Chunk) : Prop := ∃ b, u = .map (some b) ∧ N = [.mi b .i64 .u64 m]
set_option maxHeartbeats 1000000 in
theorem msgSome {w : World} {v vm : Value} {fs : List Fld} {m : List (Int × Int)} (hs : RSl Fld.enc 3 w [] v fs) (hm : RMp .i64 .u64 w [] vm m) : Spec Go.Proofs.Tryd.prog 61 #[v, vm] w [] (MapPost (someF fs m)) := by
  have hsm := hs.small
  refine Spec.enter (fn := Go.Proofs.Tryd.f61) (n := 24) [v, vm] Go.Proofs.Tryd.func61 (by kernel_rfl) rfl Go.Proofs.Tryd.ntmps61 Go.Proofs.Tryd.results61 rfl (Own.nil _) ?_
  refine JC.rs ?_
  refine Seq.p rfl Ev.assign ?_
  refine Seq.nil ?_
  refine JC.rs ?_
  refine Seq.mkMapI .i64 .u64 (k := ?_); intro b8
  refine Seq.p rfl Ev.assign ?_
  refine Seq.nil ?_
  refine JC.seq ?_
  refine JC.rs ?_
  refine Seq.p rfl Ev.move ?_
  refine Seq.p rfl (Ev.lenSl sl.sl_message_field (hr := hs.r)) ?_
  refine Seq.p rfl Ev.move ?_
  refine Seq.nil ?_
  refine JC.blk ?_
  refine JC.loop (α := Nat) (I := fun i e1 H1 => Has [7, 11, 12, 13, 14, 15, 16, 17, 18, 19, 20, 21, 22] [(11, .int .i64 (i : Int))] _ e1 ∧ H1 = [.mi b8 .i64 .u64 (someF (fs.take i) m)] ∧ i ≤ fs.length) (μ := fun i => fs.length - i) 0 ⟨Has.mk Off.refl (allLook_cons (by repeat (first | exact Look.here | apply Look.there (hne := rfl) | exact Look.const | apply Look.mix rfl | exact Look.arg0 | apply Look.args | exact Look.func)) allLook_nil), rfl, by omega⟩ ?_
  rintro i _ _ ⟨⟨ui, rfl⟩, rfl, hi⟩; dsimp only [setL]
  refine JC.rs ?_
  refine Seq.p rfl Ev.lt ?_
  refine Seq.nil ?_
  refine JC.seq ?_
  first | refine JC.c (ht := fun c12 => ?_) (hf := fun c12 => ?_) | refine JC.cb (ht := fun c12 => ?_) (hf := fun c12 => ?_)
  · -- then_t12
    have hi2 : i < fs.length := by omega
    refine JC.skip ?_
    refine JC.seq ?_
    refine JC.blk ?_
    refine JC.rs ?_
    refine Seq.p rfl (Ev.iaN sl.sl_message_field (hr := hs.r)) ?_
    refine Seq.p rfl (Ev.ldEA ag.message_field (hr := hs.r)) ?_
    refine Seq.alloc (cs := [_, _, _]) (hz := z.message_field) (k := ?_); intro b7
    refine Seq.storeN [_, _, _] sz.message_field (k := ?_)
    refine Seq.nil ?_
    refine JC.reg ?_
    refine Seq.p rfl Ev.move ?_
    refine Seq.p rfl (Ev.faB fd.message_field_0) ?_
    refine Seq.p rfl (Ev.ldB sc.int) ?_
    refine Seq.p rfl Ev.move ?_
    refine Seq.p rfl (Ev.faB fd.message_field_0) ?_
    refine Seq.p rfl (Ev.ldB sc.int) ?_
    refine Seq.p rfl (Ev.mapI mp.m_int_uint64 z.uint64 hm.r) ?_
    refine Seq.mapPutI mp.m_int_uint64 (kk' := ?_)
    refine Seq.nil ?_
    refine JC.reg ?_
    refine Seq.p rfl (by first | exact Ev.inc | exact Ev.add) ?_
    refine Seq.p rfl Ev.move ?_
    refine Seq.nil ?_
    exact ⟨i + 1, _, Part.skip (Part.refl _), ⟨Has.mk (by repeat (first | refine Off.upd ?_ rfl | exact Off.mix | refine Off.mix2 ?_ rfl | exact Off.refl)) (allLook_cons (by repeat (first | exact Look.here | apply Look.there (hne := rfl) | exact Look.const | apply Look.mix rfl | exact Look.arg0 | apply Look.args | exact Look.func)) allLook_nil), by rw [someF_snoc fs m i hi2]; rfl, by omega⟩, by omega⟩
  · -- else_t12
    obtain rfl : i = fs.length := by omega
    refine JC.exit ?_ -- 0
    refine JC.rs ?_
    refine Seq.p rfl Ev.move ?_
    refine Seq.p rfl Ev.assign ?_
    refine Seq.nil ?_
    refine JC.ret ?_
    -- return 0
    show retQ _ _ _ _ _ _ _ _
    refine ret1 (hp := Part.refl _) (hpost := ?_)
    exact ⟨b8, rfl, by rw [List.take_length]⟩
def blankFs (k : Int) : List Fld := match fieldsF (inputF k []) with | some (_, _, fs) => fs | none => []
theorem blank_some {k : Int} (hk : 1 ≤ k ∧ k ≤ 4) : ∃ a s, fieldsF (inputF k []) = some (a, s, blankFs k) := by
  have : k = 1 ∨ k = 2 ∨ k = 3 ∨ k = 4 := by omega
  rcases this with rfl | rfl | rfl | rfl <;> exact ⟨_, _, rfl⟩
set_option maxHeartbeats 1000000 in
theorem msgOnly {w : World} {k : Int} {vm : Value} {m : List (Int × Int)} (hk : 1 ≤ k ∧ k ≤ 4) (hm : RMp .i64 .u64 w [] vm m) : Spec Go.Proofs.Tryd.prog 33 #[.int .u8 k, vm] w [] (MapPost (someF (blankFs k) m)) := by
  obtain ⟨a, s, hF⟩ := blank_some hk
  have hsm := fieldsF_small hF
  generalize blankFs k = fs at hF hsm
  refine Spec.enter (fn := Go.Proofs.Tryd.f33) (n := 22) [.int .u8 k, vm] Go.Proofs.Tryd.func33 (by kernel_rfl) rfl Go.Proofs.Tryd.ntmps33 Go.Proofs.Tryd.results33 rfl (Own.nil _) ?_
  refine JC.rs ?_
  refine Seq.p rfl Ev.assign ?_
  refine Seq.nil ?_
  refine JC.rs ?_
  refine Seq.p rfl Ev.move ?_
  refine Seq.callP rfl (fun w hw => msgInputOf (RMp.nil _ _ _ _)) ?_
  refine Seq.alloc (cs := [_, _, _, _, _, _, _, _, _, _, _]) (hz := z.api_Input) (k := ?_); intro b5
  refine Seq.storeN [_, _, _, _, _, _, _, _, _, _, _] sz.api_Input (k := ?_)
  refine Seq.nil ?_
  refine JC.rs ?_
  refine Seq.p rfl (Ev.ldBA ag.api_Input) ?_
  refine Seq.call rfl (fun w hw => hF ▸ msgFieldsOf) (F := _) (by exact List.Perm.refl _) ?_
  rintro _ _ ⟨bf, rfl, rfl⟩
  refine Seq.p rfl Ev.move ?_
  refine Seq.p rfl Ev.extract ?_
  refine Seq.p rfl Ev.extract ?_
  refine Seq.p rfl Ev.extract ?_
  refine Seq.p rfl Ev.extract ?_
  refine Seq.p rfl Ev.assign ?_
  refine Seq.p rfl Ev.assign ?_
  refine Seq.p rfl Ev.assign ?_
  refine Seq.p rfl Ev.assign ?_
  refine Seq.nil ?_
  refine JC.rs ?_
  refine Seq.p rfl Ev.move ?_
  refine Seq.p rfl Ev.move ?_
  refine Seq.call rfl (fun w hw => msgSome (RAt.up (RAt.box (enc := Fld.enc) (hs := by omega)) hw) (hm.up hw)) (F := _) (by exact List.Perm.refl _) ?_
  rintro _ _ ⟨bm, rfl, rfl⟩
  refine Seq.p rfl Ev.assign ?_
  refine Seq.nil ?_
  refine JC.ret ?_
  -- return 0
  show retQ _ _ _ _ _ _ _ _
  refine ret1 (hp := Part.here (Part.nil _)) (hpost := ?_)
  exact ⟨bm, rfl, rfl⟩
def wordsM (ws : List Int) : List (Int × Int) :=
  [(11, ws[0]!), (9001, ws[0]!), (41, ws[1]!), (1, andU ws[2]! 4294967295), (54, andU (down ws[2]! 32) 255), (40, andU (down ws[2]! 40) 255), (44, andU ws[3]! 4294967295), (38, ws[4]!), (210, ws[5]!)]
def frV (k g0 g1 g2 g3 g4 g5 g6 : Int) : List Value := [.int .u8 k, .int .u64 g0, .int .u64 g1, .int .u64 g2, .int .u64 g3, .int .u64 g4, .int .u64 g5, .int .u64 g6]
def input0 : Input := ⟨0, 0, 0, 0, 0, 0, 0, 0, 0, 0, 0⟩
def unpackI (f : Frame) : Input := inputF f.kind (someF (blankFs f.kind) (wordsM f.words))
def unpackF (f : Frame) : Input × Int := if f.kind < 1 ∨ 4 < f.kind then (input0, 41) else if (packF (unpackI f)).2 = 0 ∧ (packF (unpackI f)).1 = f then (unpackI f, 0) else (input0, 40)
def unpackV (p : Input × Int) : Value := .tuple #[.agg p.1.enc.toArray, .int .i64 p.2]
theorem Frame.eqL_enc (k k' : Int) (a0 a1 a2 a3 a4 a5 a6 g0 g1 g2 g3 g4 g5 g6 : Int) : eqL (Frame.enc ⟨k, [a0, a1, a2, a3, a4, a5, a6]⟩) (Frame.enc ⟨k', [g0, g1, g2, g3, g4, g5, g6]⟩) = decide ((⟨k, [a0, a1, a2, a3, a4, a5, a6]⟩ : Frame) = ⟨k', [g0, g1, g2, g3, g4, g5, g6]⟩) := by
  simp [Frame.enc, eqL, eqV, Bool.decide_and]
theorem msgUnpackInput {w : World} {k : Int} {bs : List Int} {vm : Value} (hm : RMp .i64 .u64 w [] vm (someF (blankFs k) (wordsM bs))) : Spec Go.Proofs.Tryd.prog 32 #[.int .u8 k, vm] w [] (fun u _ => u = .agg (unpackI ⟨k, bs⟩).enc.toArray) := msgInputOf hm
set_option maxHeartbeats 4000000 in
set_option maxRecDepth 100000 in
theorem msgUnpack {w : World} {k g0 g1 g2 g3 g4 g5 g6 : Int} : Spec Go.Proofs.Tryd.prog 14 #[.agg (frV k g0 g1 g2 g3 g4 g5 g6).toArray] w [] (fun u _ => u = unpackV (unpackF ⟨k, [g0, g1, g2, g3, g4, g5, g6]⟩)) := by
  generalize hx : unpackI ⟨k, [g0, g1, g2, g3, g4, g5, g6]⟩ = x
  obtain ⟨a0, a1, a2, a3, a4, a5, a6, h7⟩ := list7 (packF_len x)
  have hP : packF x = (⟨(packF x).1.kind, [a0, a1, a2, a3, a4, a5, a6]⟩, (packF x).2) := by rw [← h7]
  generalize hkk : (packF x).1.kind = kk at hP
  generalize hee : (packF x).2 = ee at hP
  refine Spec.enter (fn := Go.Proofs.Tryd.f14) (n := 67) [.agg (frV k g0 g1 g2 g3 g4 g5 g6).toArray] Go.Proofs.Tryd.func14 (by kernel_rfl) rfl Go.Proofs.Tryd.ntmps14 Go.Proofs.Tryd.results14 rfl (Own.nil _) ?_
  refine JC.rs ?_
  refine Seq.box (cs := [_, _, _, _, _, _, _, _]) (k := ?_); intro b1
  refine Seq.alloc (cs := [_, _, _, _, _, _, _, _, _, _, _]) (hz := z.api_Input) (k := ?_); intro b2
  refine Seq.p rfl Ev.assign ?_
  refine Seq.nil ?_
  refine JC.seq ?_
  refine JC.rs ?_
  refine Seq.p rfl (Ev.faB fd.api_Frame_0) ?_
  refine Seq.p rfl (Ev.ldB sc.uint8) ?_
  refine Seq.p rfl Ev.lt ?_
  refine Seq.p rfl Ev.move ?_
  refine Seq.split (d := 12) (k := ?_)
  rintro (_|_) h12
  · try simp only [decide_eq_true_eq, decide_eq_false_iff_not] at h12
    refine Seq.gy rfl rfl rfl ?_
    refine Seq.p rfl (Ev.faB fd.api_Frame_0) ?_
    refine Seq.gy rfl rfl rfl ?_
    refine Seq.p rfl (Ev.ldB sc.uint8) ?_
    refine Seq.gy rfl rfl rfl ?_
    refine Seq.p rfl Ev.gt ?_
    refine Seq.p rfl Ev.pickF ?_
    refine Seq.nil ?_
    first | refine JC.c (ht := fun c16 => ?_) (hf := fun c16 => ?_) | refine JC.cb (ht := fun c16 => ?_) (hf := fun c16 => ?_)
    · -- then_t16
      refine JC.rs ?_
      refine Seq.p rfl (Ev.buildN [_, _, _, _, _, _, _, _, _, _, _] pl.api_Input z.api_Input) ?_
      refine Seq.storeN [_, _, _, _, _, _, _, _, _, _, _] sz.api_Input (k := ?_)
      refine Seq.p rfl Ev.assign ?_
      refine Seq.nil ?_
      refine JC.ret ?_
      -- return 0
      show retQ _ _ _ _ _ _ _ _
      refine retB2 ag.api_Input (hp := Part.nil _) (hpost := ?_)
      rw [unpackF, if_pos (Or.inr c16)]
      rfl
    · -- else_t16
      have hng : ¬ (k < 1 ∨ 4 < k) := by omega
      refine JC.skip ?_
      refine JC.rs ?_
      refine Seq.p rfl (Ev.faB fd.api_Frame_1) ?_
      refine Seq.p rfl (Ev.ldBPN [_, _, _, _, _, _, _] ag.a7_uint64) ?_
      refine Seq.alloc (cs := [_, _, _, _, _, _, _]) (hz := z.a7_uint64) (k := ?_); intro b4
      refine Seq.storeN [_, _, _, _, _, _, _] sz.a7_uint64 (k := ?_)
      refine Seq.nil ?_
      refine JC.rs ?_
      refine Seq.mkMapI .i64 .u64 (k := ?_); intro b20
      refine Seq.p rfl (Ev.iaArrB ar.a7_uint64) ?_
      refine Seq.p rfl (Ev.ldB sc.uint64) ?_
      refine Seq.mapInsI mp.m_int_uint64 (kk' := ?_)
      refine Seq.p rfl (Ev.iaArrB ar.a7_uint64) ?_
      refine Seq.p rfl (Ev.ldB sc.uint64) ?_
      refine Seq.mapInsI mp.m_int_uint64 (kk' := ?_)
      refine Seq.p rfl (Ev.iaArrB ar.a7_uint64) ?_
      refine Seq.p rfl (Ev.ldB sc.uint64) ?_
      refine Seq.mapInsI mp.m_int_uint64 (kk' := ?_)
      refine Seq.p rfl (Ev.iaArrB ar.a7_uint64) ?_
      refine Seq.p rfl (Ev.ldB sc.uint64) ?_
      refine Seq.p rfl (Ev.bits (k := .u64) (· &&& ·) (.inl ⟨rfl, rfl⟩)) ?_
      refine Seq.mapInsI mp.m_int_uint64 (kk' := ?_)
      refine Seq.p rfl (Ev.iaArrB ar.a7_uint64) ?_
      refine Seq.p rfl (Ev.ldB sc.uint64) ?_
      refine Seq.p rfl Ev.shrW ?_
      refine Seq.p rfl (Ev.bits (k := .u64) (· &&& ·) (.inl ⟨rfl, rfl⟩)) ?_
      refine Seq.mapInsI mp.m_int_uint64 (kk' := ?_)
      refine Seq.p rfl (Ev.iaArrB ar.a7_uint64) ?_
      refine Seq.p rfl (Ev.ldB sc.uint64) ?_
      refine Seq.p rfl Ev.shrW ?_
      refine Seq.p rfl (Ev.bits (k := .u64) (· &&& ·) (.inl ⟨rfl, rfl⟩)) ?_
      refine Seq.mapInsI mp.m_int_uint64 (kk' := ?_)
      refine Seq.p rfl (Ev.iaArrB ar.a7_uint64) ?_
      refine Seq.p rfl (Ev.ldB sc.uint64) ?_
      refine Seq.p rfl (Ev.bits (k := .u64) (· &&& ·) (.inl ⟨rfl, rfl⟩)) ?_
      refine Seq.mapInsI mp.m_int_uint64 (kk' := ?_)
      refine Seq.p rfl (Ev.iaArrB ar.a7_uint64) ?_
      refine Seq.p rfl (Ev.ldB sc.uint64) ?_
      refine Seq.mapInsI mp.m_int_uint64 (kk' := ?_)
      refine Seq.p rfl (Ev.iaArrB ar.a7_uint64) ?_
      refine Seq.p rfl (Ev.ldB sc.uint64) ?_
      refine Seq.mapInsI mp.m_int_uint64 (kk' := ?_)
      refine Seq.p rfl Ev.move ?_
      refine Seq.p rfl Ev.assign ?_
      refine Seq.nil ?_
      refine JC.as mixed ?_
      refine Any.p 0 rfl (by kernel_rfl) (by kernel_rfl) (by kernel_rfl) rfl (Ev.faB fd.api_Frame_0) ?_
      refine Any.p 1 rfl (by kernel_rfl) (by kernel_rfl) (by kernel_rfl) rfl (Ev.ldB sc.uint8) ?_
      refine Any.p 2 rfl (by kernel_rfl) (by kernel_rfl) (by kernel_rfl) rfl (Ev.faB fd.api_Frame_0) ?_
      refine Any.p 3 rfl (by kernel_rfl) (by kernel_rfl) (by kernel_rfl) rfl (Ev.ldB sc.uint8) ?_
      refine Any.p 4 rfl (by kernel_rfl) (by kernel_rfl) (by kernel_rfl) rfl Ev.move ?_
      refine Any.two 5 7 rfl rfl (by kernel_rfl) ?_ ?_
      · -- first 5
        refine Seq.call rfl (fun w hw => msgOnly (m := wordsM [g0, g1, g2, g3, g4, g5, g6]) (by omega) (RM.up RM.own hw)) (F := _) (by exact List.Perm.refl _) ?_
        rintro _ _ ⟨bm, rfl, rfl⟩
        refine Seq.nil ⟨(by repeat (first | exact Part.refl _ | exact Part.nil _ | apply Part.here | apply Part.skip)), ?_⟩
        refine Any.two 6 7 rfl rfl (by kernel_rfl) ?_ ?_
        · -- first 6
          refine Seq.callP rfl (fun w hw => hx ▸ msgUnpackInput (bs := [g0, g1, g2, g3, g4, g5, g6]) (RM.up RM.own hw)) ?_
          refine Seq.nil ⟨(by repeat (first | exact Part.refl _ | exact Part.nil _ | apply Part.here | apply Part.skip)), ?_⟩
          refine Any.one 7 rfl (by kernel_rfl) ?_
          refine Seq.alloc (cs := [_, _, _, _, _, _, _, _, _, _, _]) (hz := z.api_Input) (k := ?_); intro b6
          refine Seq.nil ⟨(by repeat (first | exact Part.refl _ | exact Part.nil _ | apply Part.here | apply Part.skip)), ?_⟩
          refine Any.one 8 rfl (by kernel_rfl) ?_
          refine Seq.storeN [_, _, _, _, _, _, _, _, _, _, _] sz.api_Input (k := ?_)
          refine Seq.nil ⟨(by repeat (first | exact Part.refl _ | exact Part.nil _ | apply Part.here | apply Part.skip)), ?_⟩
          refine Any.done (by kernel_rfl) ?_
          refine JC.seq ?_
          refine JC.rs ?_
          refine Seq.p rfl (Ev.ldBA ag.api_Input) ?_
          refine Seq.callP rfl (fun w hw => hP ▸ msgPack) ?_
          refine Seq.p rfl Ev.move ?_
          refine Seq.p rfl Ev.extract ?_
          refine Seq.p rfl Ev.extract ?_
          refine Seq.alloc (cs := [_, _, _, _, _, _, _, _]) (hz := z.api_Frame) (k := ?_); intro b7
          refine Seq.storeN [_, _, _, _, _, _, _, _] sz.api_Frame (k := ?_)
          refine Seq.p rfl Ev.assign ?_
          refine Seq.nil ?_
          refine JC.rs ?_
          refine Seq.p rfl Ev.move ?_
          refine Seq.p rfl Ev.ne ?_
          refine Seq.p rfl Ev.move ?_
          refine Seq.split (d := 60) (k := ?_)
          rintro (_|_) h60
          · try simp only [decide_eq_true_eq, decide_eq_false_iff_not] at h60
            refine Seq.gy rfl rfl rfl ?_
            refine Seq.p rfl (Ev.ldBA ag.api_Frame) ?_
            refine Seq.gy rfl rfl rfl ?_
            refine Seq.p rfl (Ev.ldBA ag.api_Frame) ?_
            refine Seq.gy rfl rfl rfl ?_
            refine Seq.p rfl (Ev.neAg so.api_Frame ag.api_Frame gd.api_Frame) ?_
            refine Seq.p rfl Ev.pickF ?_
            refine Seq.nil ?_
            first | refine JC.c (ht := fun c64 => ?_) (hf := fun c64 => ?_) | refine JC.cb (ht := fun c64 => ?_) (hf := fun c64 => ?_)
            · -- then_t64
              refine JC.rs ?_
              refine Seq.p rfl (Ev.buildN [_, _, _, _, _, _, _, _, _, _, _] pl.api_Input z.api_Input) ?_
              refine Seq.storeN [_, _, _, _, _, _, _, _, _, _, _] sz.api_Input (k := ?_)
              refine Seq.p rfl Ev.assign ?_
              refine Seq.nil ?_
              refine JC.ret ?_
              -- return 1
              show retQ _ _ _ _ _ _ _ _
              refine retB2 ag.api_Input (hp := Part.nil _) (hpost := ?_)
              have c65 : (!eqL (Frame.enc ⟨kk, [a0, a1, a2, a3, a4, a5, a6]⟩) (Frame.enc ⟨k, [g0, g1, g2, g3, g4, g5, g6]⟩)) = true := c64
              rw [Frame.eqL_enc] at c65
              have hne : ¬ ((⟨kk, [a0, a1, a2, a3, a4, a5, a6]⟩ : Frame) = ⟨k, [g0, g1, g2, g3, g4, g5, g6]⟩) := by intro he; rw [decide_eq_true he] at c65; cases c65
              rw [unpackF, if_neg hng, hx, hP, if_neg (fun h => hne h.2)]
              rfl
            · -- else_t64
              refine JC.skip ?_
              refine JC.rs ?_
              refine Seq.p rfl (Ev.ldBA ag.api_Input) ?_
              refine Seq.storeN [_, _, _, _, _, _, _, _, _, _, _] sz.api_Input (k := ?_)
              refine Seq.p rfl Ev.assign ?_
              refine Seq.nil ?_
              refine JC.ret ?_
              -- return 2
              show retQ _ _ _ _ _ _ _ _
              refine retB2 ag.api_Input (hp := Part.nil _) (hpost := ?_)
              have c65 : (!eqL (Frame.enc ⟨kk, [a0, a1, a2, a3, a4, a5, a6]⟩) (Frame.enc ⟨k, [g0, g1, g2, g3, g4, g5, g6]⟩)) = false := c64
              rw [Frame.eqL_enc] at c65
              have heq : ((⟨kk, [a0, a1, a2, a3, a4, a5, a6]⟩ : Frame) = ⟨k, [g0, g1, g2, g3, g4, g5, g6]⟩) := of_ndec c65
              rw [unpackF, if_neg hng, hx, hP, if_pos ⟨Classical.not_not.1 h60, heq⟩]
              rfl
          · try simp only [decide_eq_true_eq, decide_eq_false_iff_not] at h60
            refine Seq.gn rfl rfl rfl rfl ?_
            refine Seq.gn rfl rfl rfl rfl ?_
            refine Seq.gn rfl rfl rfl rfl ?_
            refine Seq.p rfl Ev.pickT ?_
            refine Seq.nil ?_
            refine JC.cT (h := ?_)
            refine JC.rs ?_
            refine Seq.p rfl (Ev.buildN [_, _, _, _, _, _, _, _, _, _, _] pl.api_Input z.api_Input) ?_
            refine Seq.storeN [_, _, _, _, _, _, _, _, _, _, _] sz.api_Input (k := ?_)
            refine Seq.p rfl Ev.assign ?_
            refine Seq.nil ?_
            refine JC.ret ?_
            -- return 3
            show retQ _ _ _ _ _ _ _ _
            refine retB2 ag.api_Input (hp := Part.nil _) (hpost := ?_)
            rw [unpackF, if_neg hng, hx, hP, if_neg (fun h => h60 h.1)]
            rfl
        · -- first 7
          refine Seq.alloc (cs := [_, _, _, _, _, _, _, _, _, _, _]) (hz := z.api_Input) (k := ?_); intro b6
          refine Seq.nil ⟨(by repeat (first | exact Part.refl _ | exact Part.nil _ | apply Part.here | apply Part.skip)), ?_⟩
          refine Any.one 6 rfl (by kernel_rfl) ?_
          refine Seq.callP rfl (fun w hw => hx ▸ msgUnpackInput (bs := [g0, g1, g2, g3, g4, g5, g6]) (RM.up RM.own hw)) ?_
          refine Seq.nil ⟨(by repeat (first | exact Part.refl _ | exact Part.nil _ | apply Part.here | apply Part.skip)), ?_⟩
          refine Any.one 8 rfl (by kernel_rfl) ?_
          refine Seq.storeN [_, _, _, _, _, _, _, _, _, _, _] sz.api_Input (k := ?_)
          refine Seq.nil ⟨(by repeat (first | exact Part.refl _ | exact Part.nil _ | apply Part.here | apply Part.skip)), ?_⟩
          refine Any.done (by kernel_rfl) ?_
          refine JC.seq ?_
          refine JC.rs ?_
          refine Seq.p rfl (Ev.ldBA ag.api_Input) ?_
          refine Seq.callP rfl (fun w hw => hP ▸ msgPack) ?_
          refine Seq.p rfl Ev.move ?_
          refine Seq.p rfl Ev.extract ?_
          refine Seq.p rfl Ev.extract ?_
          refine Seq.alloc (cs := [_, _, _, _, _, _, _, _]) (hz := z.api_Frame) (k := ?_); intro b7
          refine Seq.storeN [_, _, _, _, _, _, _, _] sz.api_Frame (k := ?_)
          refine Seq.p rfl Ev.assign ?_
          refine Seq.nil ?_
          refine JC.rs ?_
          refine Seq.p rfl Ev.move ?_
          refine Seq.p rfl Ev.ne ?_
          refine Seq.p rfl Ev.move ?_
          refine Seq.split (d := 60) (k := ?_)
          rintro (_|_) h60
          · try simp only [decide_eq_true_eq, decide_eq_false_iff_not] at h60
            refine Seq.gy rfl rfl rfl ?_
            refine Seq.p rfl (Ev.ldBA ag.api_Frame) ?_
            refine Seq.gy rfl rfl rfl ?_
            refine Seq.p rfl (Ev.ldBA ag.api_Frame) ?_
            refine Seq.gy rfl rfl rfl ?_
            refine Seq.p rfl (Ev.neAg so.api_Frame ag.api_Frame gd.api_Frame) ?_
            refine Seq.p rfl Ev.pickF ?_
            refine Seq.nil ?_
            first | refine JC.c (ht := fun c64 => ?_) (hf := fun c64 => ?_) | refine JC.cb (ht := fun c64 => ?_) (hf := fun c64 => ?_)
            · -- then_t64
              refine JC.rs ?_
              refine Seq.p rfl (Ev.buildN [_, _, _, _, _, _, _, _, _, _, _] pl.api_Input z.api_Input) ?_
              refine Seq.storeN [_, _, _, _, _, _, _, _, _, _, _] sz.api_Input (k := ?_)
              refine Seq.p rfl Ev.assign ?_
              refine Seq.nil ?_
              refine JC.ret ?_
              -- return 4
              show retQ _ _ _ _ _ _ _ _
              refine retB2 ag.api_Input (hp := Part.nil _) (hpost := ?_)
              have c65 : (!eqL (Frame.enc ⟨kk, [a0, a1, a2, a3, a4, a5, a6]⟩) (Frame.enc ⟨k, [g0, g1, g2, g3, g4, g5, g6]⟩)) = true := c64
              rw [Frame.eqL_enc] at c65
              have hne : ¬ ((⟨kk, [a0, a1, a2, a3, a4, a5, a6]⟩ : Frame) = ⟨k, [g0, g1, g2, g3, g4, g5, g6]⟩) := by intro he; rw [decide_eq_true he] at c65; cases c65
              rw [unpackF, if_neg hng, hx, hP, if_neg (fun h => hne h.2)]
              rfl
            · -- else_t64
              refine JC.skip ?_
              refine JC.rs ?_
              refine Seq.p rfl (Ev.ldBA ag.api_Input) ?_
              refine Seq.storeN [_, _, _, _, _, _, _, _, _, _, _] sz.api_Input (k := ?_)
              refine Seq.p rfl Ev.assign ?_
              refine Seq.nil ?_
              refine JC.ret ?_
              -- return 5
              show retQ _ _ _ _ _ _ _ _
              refine retB2 ag.api_Input (hp := Part.nil _) (hpost := ?_)
              have c65 : (!eqL (Frame.enc ⟨kk, [a0, a1, a2, a3, a4, a5, a6]⟩) (Frame.enc ⟨k, [g0, g1, g2, g3, g4, g5, g6]⟩)) = false := c64
              rw [Frame.eqL_enc] at c65
              have heq : ((⟨kk, [a0, a1, a2, a3, a4, a5, a6]⟩ : Frame) = ⟨k, [g0, g1, g2, g3, g4, g5, g6]⟩) := of_ndec c65
              rw [unpackF, if_neg hng, hx, hP, if_pos ⟨Classical.not_not.1 h60, heq⟩]
              rfl
          · try simp only [decide_eq_true_eq, decide_eq_false_iff_not] at h60
            refine Seq.gn rfl rfl rfl rfl ?_
            refine Seq.gn rfl rfl rfl rfl ?_
            refine Seq.gn rfl rfl rfl rfl ?_
            refine Seq.p rfl Ev.pickT ?_
            refine Seq.nil ?_
            refine JC.cT (h := ?_)
            refine JC.rs ?_
            refine Seq.p rfl (Ev.buildN [_, _, _, _, _, _, _, _, _, _, _] pl.api_Input z.api_Input) ?_
            refine Seq.storeN [_, _, _, _, _, _, _, _, _, _, _] sz.api_Input (k := ?_)
            refine Seq.p rfl Ev.assign ?_
            refine Seq.nil ?_
            refine JC.ret ?_
            -- return 6
            show retQ _ _ _ _ _ _ _ _
            refine retB2 ag.api_Input (hp := Part.nil _) (hpost := ?_)
            rw [unpackF, if_neg hng, hx, hP, if_neg (fun h => h60 h.1)]
            rfl
      · -- first 7
        refine Seq.alloc (cs := [_, _, _, _, _, _, _, _, _, _, _]) (hz := z.api_Input) (k := ?_); intro b6
        refine Seq.nil ⟨(by repeat (first | exact Part.refl _ | exact Part.nil _ | apply Part.here | apply Part.skip)), ?_⟩
        refine Any.one 5 rfl (by kernel_rfl) ?_
        refine Seq.call rfl (fun w hw => msgOnly (m := wordsM [g0, g1, g2, g3, g4, g5, g6]) (by omega) (RM.up RM.own hw)) (F := _) (by exact List.Perm.refl _) ?_
        rintro _ _ ⟨bm, rfl, rfl⟩
        refine Seq.nil ⟨(by repeat (first | exact Part.refl _ | exact Part.nil _ | apply Part.here | apply Part.skip)), ?_⟩
        refine Any.one 6 rfl (by kernel_rfl) ?_
        refine Seq.callP rfl (fun w hw => hx ▸ msgUnpackInput (bs := [g0, g1, g2, g3, g4, g5, g6]) (RM.up RM.own hw)) ?_
        refine Seq.nil ⟨(by repeat (first | exact Part.refl _ | exact Part.nil _ | apply Part.here | apply Part.skip)), ?_⟩
        refine Any.one 8 rfl (by kernel_rfl) ?_
        refine Seq.storeN [_, _, _, _, _, _, _, _, _, _, _] sz.api_Input (k := ?_)
        refine Seq.nil ⟨(by repeat (first | exact Part.refl _ | exact Part.nil _ | apply Part.here | apply Part.skip)), ?_⟩
        refine Any.done (by kernel_rfl) ?_
        refine JC.seq ?_
        refine JC.rs ?_
        refine Seq.p rfl (Ev.ldBA ag.api_Input) ?_
        refine Seq.callP rfl (fun w hw => hP ▸ msgPack) ?_
        refine Seq.p rfl Ev.move ?_
        refine Seq.p rfl Ev.extract ?_
        refine Seq.p rfl Ev.extract ?_
        refine Seq.alloc (cs := [_, _, _, _, _, _, _, _]) (hz := z.api_Frame) (k := ?_); intro b7
        refine Seq.storeN [_, _, _, _, _, _, _, _] sz.api_Frame (k := ?_)
        refine Seq.p rfl Ev.assign ?_
        refine Seq.nil ?_
        refine JC.rs ?_
        refine Seq.p rfl Ev.move ?_
        refine Seq.p rfl Ev.ne ?_
        refine Seq.p rfl Ev.move ?_
        refine Seq.split (d := 60) (k := ?_)
        rintro (_|_) h60
        · try simp only [decide_eq_true_eq, decide_eq_false_iff_not] at h60
          refine Seq.gy rfl rfl rfl ?_
          refine Seq.p rfl (Ev.ldBA ag.api_Frame) ?_
          refine Seq.gy rfl rfl rfl ?_
          refine Seq.p rfl (Ev.ldBA ag.api_Frame) ?_
          refine Seq.gy rfl rfl rfl ?_
          refine Seq.p rfl (Ev.neAg so.api_Frame ag.api_Frame gd.api_Frame) ?_
          refine Seq.p rfl Ev.pickF ?_
          refine Seq.nil ?_
          first | refine JC.c (ht := fun c64 => ?_) (hf := fun c64 => ?_) | refine JC.cb (ht := fun c64 => ?_) (hf := fun c64 => ?_)
          · -- then_t64
            refine JC.rs ?_
            refine Seq.p rfl (Ev.buildN [_, _, _, _, _, _, _, _, _, _, _] pl.api_Input z.api_Input) ?_
            refine Seq.storeN [_, _, _, _, _, _, _, _, _, _, _] sz.api_Input (k := ?_)
            refine Seq.p rfl Ev.assign ?_
            refine Seq.nil ?_
            refine JC.ret ?_
            -- return 7
            show retQ _ _ _ _ _ _ _ _
            refine retB2 ag.api_Input (hp := Part.nil _) (hpost := ?_)
            have c65 : (!eqL (Frame.enc ⟨kk, [a0, a1, a2, a3, a4, a5, a6]⟩) (Frame.enc ⟨k, [g0, g1, g2, g3, g4, g5, g6]⟩)) = true := c64
            rw [Frame.eqL_enc] at c65
            have hne : ¬ ((⟨kk, [a0, a1, a2, a3, a4, a5, a6]⟩ : Frame) = ⟨k, [g0, g1, g2, g3, g4, g5, g6]⟩) := by intro he; rw [decide_eq_true he] at c65; cases c65
            rw [unpackF, if_neg hng, hx, hP, if_neg (fun h => hne h.2)]
            rfl
          · -- else_t64
            refine JC.skip ?_
            refine JC.rs ?_
            refine Seq.p rfl (Ev.ldBA ag.api_Input) ?_
            refine Seq.storeN [_, _, _, _, _, _, _, _, _, _, _] sz.api_Input (k := ?_)
            refine Seq.p rfl Ev.assign ?_
            refine Seq.nil ?_
            refine JC.ret ?_
            -- return 8
            show retQ _ _ _ _ _ _ _ _
            refine retB2 ag.api_Input (hp := Part.nil _) (hpost := ?_)
            have c65 : (!eqL (Frame.enc ⟨kk, [a0, a1, a2, a3, a4, a5, a6]⟩) (Frame.enc ⟨k, [g0, g1, g2, g3, g4, g5, g6]⟩)) = false := c64
            rw [Frame.eqL_enc] at c65
            have heq : ((⟨kk, [a0, a1, a2, a3, a4, a5, a6]⟩ : Frame) = ⟨k, [g0, g1, g2, g3, g4, g5, g6]⟩) := of_ndec c65
            rw [unpackF, if_neg hng, hx, hP, if_pos ⟨Classical.not_not.1 h60, heq⟩]
            rfl
        · try simp only [decide_eq_true_eq, decide_eq_false_iff_not] at h60
          refine Seq.gn rfl rfl rfl rfl ?_
          refine Seq.gn rfl rfl rfl rfl ?_
          refine Seq.gn rfl rfl rfl rfl ?_
          refine Seq.p rfl Ev.pickT ?_
          refine Seq.nil ?_
          refine JC.cT (h := ?_)
          refine JC.rs ?_
          refine Seq.p rfl (Ev.buildN [_, _, _, _, _, _, _, _, _, _, _] pl.api_Input z.api_Input) ?_
          refine Seq.storeN [_, _, _, _, _, _, _, _, _, _, _] sz.api_Input (k := ?_)
          refine Seq.p rfl Ev.assign ?_
          refine Seq.nil ?_
          refine JC.ret ?_
          -- return 9
          show retQ _ _ _ _ _ _ _ _
          refine retB2 ag.api_Input (hp := Part.nil _) (hpost := ?_)
          rw [unpackF, if_neg hng, hx, hP, if_neg (fun h => h60 h.1)]
          rfl
  · try simp only [decide_eq_true_eq, decide_eq_false_iff_not] at h12
    refine Seq.gn rfl rfl rfl rfl ?_
    refine Seq.gn rfl rfl rfl rfl ?_
    refine Seq.gn rfl rfl rfl rfl ?_
    refine Seq.p rfl Ev.pickT ?_
    refine Seq.nil ?_
    refine JC.cT (h := ?_)
    refine JC.rs ?_
    refine Seq.p rfl (Ev.buildN [_, _, _, _, _, _, _, _, _, _, _] pl.api_Input z.api_Input) ?_
    refine Seq.storeN [_, _, _, _, _, _, _, _, _, _, _] sz.api_Input (k := ?_)
    refine Seq.p rfl Ev.assign ?_
    refine Seq.nil ?_
    refine JC.ret ?_
    -- return 10
    show retQ _ _ _ _ _ _ _ _
    refine retB2 ag.api_Input (hp := Part.nil _) (hpost := ?_)
    rw [unpackF, if_pos (Or.inl h12)]
    rfl
end Go.Rx
namespace Go.Rx
open Go Go.RowKit
set_option linter.unusedVariables false
set_option linter.unusedSimpArgs false
def takenF (f : Frame) (x : RF) : Int := if 0 < x.most then andU (down f.words[x.word.toNat]! x.shift) x.most else down f.words[x.word.toNat]! x.shift
def takeGo (f : Frame) (l : List RF) (a : Input) : Input := l.foldl (fun a x => withF a x.tag (takenF f x)) a
theorem takeGo_snoc (f : Frame) (l : List RF) (a : Input) (i : Nat) (h : i < l.length) : takeGo f (l.take (i + 1)) a = withF (takeGo f (l.take i) a) l[i]!.tag (takenF f l[i]!) := by
  have : l.take (i + 1) = l.take i ++ [l[i]!] := by
    rw [List.take_succ_eq_append_getElem h, getElem!_pos l i h]
  rw [this]
  unfold takeGo
  rw [List.foldl_append]
  rfl
set_option maxHeartbeats 4000000 in
set_option maxRecDepth 100000 in
theorem refFields0 {w : World} {k : Int} (hk : ¬ (1 ≤ k ∧ k ≤ 4)) : Spec Go.Proofs.Tryd.prog 21 #[.int .i64 k] w [] (fun u _ => u = .slice none 0 0) := by
  refine Spec.enter (fn := Go.Proofs.Tryd.f21) (n := 40) [.int .i64 k] Go.Proofs.Tryd.func21 (by kernel_rfl) rfl Go.Proofs.Tryd.ntmps21 Go.Proofs.Tryd.results21 rfl (Own.nil _) ?_
  refine JC.rs ?_
  refine Seq.p rfl Ev.assign ?_
  refine Seq.nil ?_
  refine JC.rs ?_
  refine Seq.p rfl (Ev.buildN [_, _, _, _] pl.bourseref04_field z.bourseref04_field) ?_
  refine Seq.p rfl (Ev.buildN [_, _, _, _] pl.bourseref04_field z.bourseref04_field) ?_
  refine Seq.alloc (cs := [_, _, _, _]) (hz := z.bourseref04_field) (k := ?_); intro b3
  refine Seq.alloc (cs := [_, _, _, _]) (hz := z.bourseref04_field) (k := ?_); intro b4
  refine Seq.storeN [_, _, _, _] sz.bourseref04_field (k := ?_)
  refine Seq.storeN [_, _, _, _] sz.bourseref04_field (k := ?_)
  refine Seq.nil ?_
  refine JC.rs ?_
  refine Seq.p rfl (Ev.buildN [_, _, _, _] pl.bourseref04_field z.bourseref04_field) ?_
  refine Seq.p rfl (Ev.buildN [_, _, _, _] pl.bourseref04_field z.bourseref04_field) ?_
  refine Seq.p rfl (Ev.buildN [_, _, _, _] pl.bourseref04_field z.bourseref04_field) ?_
  refine Seq.alloc (cs := [_, _, _, _]) (hz := z.bourseref04_field) (k := ?_); intro b5
  refine Seq.alloc (cs := [_, _, _, _]) (hz := z.bourseref04_field) (k := ?_); intro b6
  refine Seq.alloc (cs := [_, _, _, _]) (hz := z.bourseref04_field) (k := ?_); intro b7
  refine Seq.storeN [_, _, _, _] sz.bourseref04_field (k := ?_)
  refine Seq.storeN [_, _, _, _] sz.bourseref04_field (k := ?_)
  refine Seq.storeN [_, _, _, _] sz.bourseref04_field (k := ?_)
  refine Seq.nil ?_
  refine JC.seq ?_
  refine JC.rs ?_
  refine Seq.p rfl Ev.move ?_
  refine Seq.nil ?_
  refine JC.blk ?_
  refine JC.rs ?_
  refine Seq.p rfl Ev.eq ?_
  refine Seq.p rfl Ev.assign ?_
  refine Seq.nil ?_
  first | refine JC.c (ht := fun c14 => ?_) (hf := fun c14 => ?_) | refine JC.cb (ht := fun c14 => ?_) (hf := fun c14 => ?_)
  · -- then_t14
    exfalso; omega
  · -- else_t14
    refine JC.rs ?_
    refine Seq.p rfl Ev.eq ?_
    refine Seq.p rfl Ev.assign ?_
    refine Seq.nil ?_
    first | refine JC.c (ht := fun c24 => ?_) (hf := fun c24 => ?_) | refine JC.cb (ht := fun c24 => ?_) (hf := fun c24 => ?_)
    · -- then_t24
      exfalso; omega
    · -- else_t24
      refine JC.rs ?_
      refine Seq.p rfl Ev.eq ?_
      refine Seq.p rfl Ev.assign ?_
      refine Seq.nil ?_
      first | refine JC.c (ht := fun c28 => ?_) (hf := fun c28 => ?_) | refine JC.cb (ht := fun c28 => ?_) (hf := fun c28 => ?_)
      · -- then_t28
        exfalso; omega
      · -- else_t28
        refine JC.rs ?_
        refine Seq.p rfl Ev.eq ?_
        refine Seq.p rfl Ev.assign ?_
        refine Seq.nil ?_
        first | refine JC.c (ht := fun c36 => ?_) (hf := fun c36 => ?_) | refine JC.cb (ht := fun c36 => ?_) (hf := fun c36 => ?_)
        · -- then_t36
          exfalso; omega
        · -- else_t36
          refine JC.skip ?_
          refine JC.rs ?_
          refine Seq.p rfl Ev.assign ?_
          refine Seq.nil ?_
          refine JC.ret ?_
          -- return 0
          show retQ _ _ _ _ _ _ _ _
          refine ret1 (hp := Part.nil _) (hpost := ?_)
          rfl
def refUnpackI (f : Frame) : Input := takeGo f (refFieldsF f.kind) (bareF f.kind)
def refUnpackF (f : Frame) : Input × Int := if f.kind < 1 ∨ 4 < f.kind then (input0, 41) else if (refPackF (refUnpackI f)).2 = 0 ∧ (refPackF (refUnpackI f)).1 = f then (refUnpackI f, 0) else (input0, 40)
end Go.Rx
/- The law bourselaw04.MessageUnpacks gives true, whatever the frame; the input reads as it did. No condition beyond the row's own. -/
namespace Go.Rx
open Go Go.RowKit Go.WideShapes
set_option linter.unusedVariables false
set_option linter.unusedSimpArgs false
theorem down_zero (n : Int) : down n 0 = n := by
  have e : (2 : Int) ^ (min (Int.toNat 0) IntKind.u64.bits) = 1 := rfl
  rw [down, e, Int.ediv_one]
theorem s64_range (n : Int) : -9223372036854775808 ≤ s64 n ∧ s64 n ≤ 9223372036854775807 := by
  have h64 : (2 ^ IntKind.i64.bits : Int) = 18446744073709551616 := rfl
  have h63 : (2 ^ (IntKind.i64.bits - 1) : Int) = 9223372036854775808 := rfl
  have hs : IntKind.i64.signed = true := rfl
  simp only [s64, IntKind.wrap, h64, h63, hs, Bool.true_and, ge_iff_le, decide_eq_true_eq]
  split <;> omega
section
variable (g0 g1 g2 g3 g4 g5 g6 : Int)
def inp1 : Input := ⟨1, 1, g0, 0, andU g2 4294967295 % 4294967296, s64 (andU (down g2 32) 255), s64 (andU (down g2 40) 255), s64 (andU g3 4294967295), g4, g5, 0⟩
def inp2 : Input := ⟨1, 2, 0, g1, 0, 0, 0, 0, 0, 0, 0⟩
def inp3 : Input := ⟨1, 3, g0, g1, 0, 0, 0, s64 (andU g3 4294967295), g4, g5, 0⟩
def inp4 : Input := ⟨2, 0, 0, 0, 0, 0, 0, 0, 0, 0, s64 (andU g0 255)⟩
theorem unp1 : unpackI ⟨1, [g0, g1, g2, g3, g4, g5, g6]⟩ = inp1 g0 g2 g3 g4 g5 := rfl
theorem unp2 : unpackI ⟨2, [g0, g1, g2, g3, g4, g5, g6]⟩ = inp2 g1 := rfl
theorem unp3 : unpackI ⟨3, [g0, g1, g2, g3, g4, g5, g6]⟩ = inp3 g0 g1 g3 g4 g5 := rfl
theorem ref1 : refUnpackI ⟨1, [g0, g1, g2, g3, g4, g5, g6]⟩ = inp1 g0 g2 g3 g4 g5 := by
  show (⟨1, 1, down g0 0, 0, andU (down g2 0) 4294967295 % 4294967296, s64 (andU (down g2 32) 255), s64 (andU (down g2 40) 255), s64 (andU (down g3 0) 4294967295), down g4 0, down g5 0, 0⟩ : Input) = _
  simp only [down_zero]
  rfl
theorem ref2 : refUnpackI ⟨2, [g0, g1, g2, g3, g4, g5, g6]⟩ = inp2 g1 := by
  show (⟨1, 2, 0, down g1 0, 0, 0, 0, 0, 0, 0, 0⟩ : Input) = _
  simp only [down_zero]
  rfl
theorem ref3 : refUnpackI ⟨3, [g0, g1, g2, g3, g4, g5, g6]⟩ = inp3 g0 g1 g3 g4 g5 := by
  show (⟨1, 3, down g0 0, down g1 0, 0, 0, 0, s64 (andU (down g3 0) 4294967295), down g4 0, down g5 0, 0⟩ : Input) = _
  simp only [down_zero]
  rfl
theorem ref4 : refUnpackI ⟨4, [g0, g1, g2, g3, g4, g5, g6]⟩ = inp4 g0 := by
  show (⟨2, 0, 0, 0, 0, 0, 0, 0, 0, 0, s64 (andU (down g0 0) 255)⟩ : Input) = _
  simp only [down_zero]
  rfl
end
theorem andU_255 (g : Int) : 0 ≤ andU g 255 ∧ andU g 255 ≤ 255 := by
  have h : (BitVec.ofInt IntKind.u64.bits g &&& BitVec.ofInt IntKind.u64.bits 255).toNat ≤ 255 := by
    rw [BitVec.toNat_and]
    exact Nat.and_le_right
  have h64 : (2 ^ IntKind.u64.bits : Int) = 18446744073709551616 := rfl
  have hs : IntKind.u64.signed = false := rfl
  have e : andU g 255 = ((BitVec.ofInt IntKind.u64.bits g &&& BitVec.ofInt IntKind.u64.bits 255).toNat : Int) := by
    simp only [andU, IntKind.wrap, h64, hs, Bool.false_and]
    exact Int.emod_eq_of_lt (by omega) (by omega)
  rw [e]
  omega
theorem andU_small {g : Int} (h : 0 ≤ g ∧ g ≤ 255) : andU g 255 = g := by
  have h64 : (2 ^ IntKind.u64.bits : Int) = 18446744073709551616 := rfl
  have hs : IntKind.u64.signed = false := rfl
  have h1 : (BitVec.ofInt IntKind.u64.bits g).toNat = g.toNat := by
    rw [BitVec.toNat_ofInt]
    have : ((2 ^ IntKind.u64.bits : Nat) : Int) = 18446744073709551616 := rfl
    rw [this, Int.emod_eq_of_lt h.1 (by omega)]
  have h2 : (BitVec.ofInt IntKind.u64.bits 255).toNat = 2 ^ 8 - 1 := rfl
  have e : (BitVec.ofInt IntKind.u64.bits g &&& BitVec.ofInt IntKind.u64.bits 255).toNat = g.toNat := by
    rw [BitVec.toNat_and, h1, h2, Nat.and_two_pow_sub_one_eq_mod]
    exact Nat.mod_eq_of_lt (by omega)
  simp only [andU, IntKind.wrap, h64, hs, Bool.false_and, e]
  rw [Int.emod_eq_of_lt (by omega) (by omega)]
  simp
  omega
theorem unp4 (g0 g1 g2 g3 g4 g5 g6 : Int) : unpackI ⟨4, [g0, g1, g2, g3, g4, g5, g6]⟩ = ⟨2, 0, 0, 0, 0, 0, 0, 0, 0, 0, s64 g0⟩ := rfl
theorem unpack_of {f : Frame} (hw : (unpackI f).Wf) (h : unpackI f = refUnpackI f) : unpackF f = refUnpackF f := by
  rw [unpackF, refUnpackF, ← h, ← pack_eq hw]
theorem s64_big {g : Int} (h : 255 < g ∧ g ≤ 18446744073709551615) : ¬ (0 ≤ s64 g ∧ s64 g ≤ 255) := by
  have h64 : (2 ^ IntKind.i64.bits : Int) = 18446744073709551616 := rfl
  have h63 : (2 ^ (IntKind.i64.bits - 1) : Int) = 9223372036854775808 := rfl
  have hs : IntKind.i64.signed = true := rfl
  simp only [s64, IntKind.wrap, h64, h63, hs, Bool.true_and, ge_iff_le, decide_eq_true_eq]
  split <;> omega
theorem unpack_eq {k g0 g1 g2 g3 g4 g5 g6 : Int} (b0 : 0 ≤ g0 ∧ g0 ≤ 18446744073709551615) (b1 : 0 ≤ g1 ∧ g1 ≤ 18446744073709551615) (b4 : 0 ≤ g4 ∧ g4 ≤ 18446744073709551615) (b5 : 0 ≤ g5 ∧ g5 ≤ 18446744073709551615) :
    unpackF ⟨k, [g0, g1, g2, g3, g4, g5, g6]⟩ = refUnpackF ⟨k, [g0, g1, g2, g3, g4, g5, g6]⟩ := by
  by_cases hk : k < 1 ∨ 4 < k
  · rw [unpackF, refUnpackF, if_pos hk, if_pos hk]
  · have : k = 1 ∨ k = 2 ∨ k = 3 ∨ k = 4 := by omega
    have zi : -9223372036854775808 ≤ (0 : Int) ∧ (0 : Int) ≤ 9223372036854775807 := by decide
    have zu : (0 : Int) ≤ 0 ∧ (0 : Int) ≤ 18446744073709551615 := by decide
    have zm : (0 : Int) ≤ 0 ∧ (0 : Int) ≤ 4294967295 := by decide
    have c1 : -9223372036854775808 ≤ (1 : Int) ∧ (1 : Int) ≤ 9223372036854775807 := by decide
    have c2 : -9223372036854775808 ≤ (2 : Int) ∧ (2 : Int) ≤ 9223372036854775807 := by decide
    have c3 : -9223372036854775808 ≤ (3 : Int) ∧ (3 : Int) ≤ 9223372036854775807 := by decide
    have z : ∀ n : Int, 0 ≤ n % 4294967296 ∧ n % 4294967296 ≤ 4294967295 := fun n => by omega
    rcases this with rfl | rfl | rfl | rfl
    · refine unpack_of ?_ ((unp1 ..).trans (ref1 ..).symm)
      rw [unp1]
      exact ⟨c1, b0, zu, z _, s64_range _, s64_range _, s64_range _, b4, b5, zi⟩
    · refine unpack_of ?_ ((unp2 ..).trans (ref2 ..).symm)
      rw [unp2]
      exact ⟨c2, zu, b1, zm, zi, zi, zi, zu, zu, zi⟩
    · refine unpack_of ?_ ((unp3 ..).trans (ref3 ..).symm)
      rw [unp3]
      exact ⟨c3, b0, b1, zm, zi, zi, s64_range _, b4, b5, zi⟩
    · by_cases h : g0 ≤ 255
      · refine unpack_of ?_ ((unp4 ..).trans ?_)
        · rw [unp4]
          exact ⟨zi, zu, zu, zm, zi, zi, zi, zu, zu, s64_range _⟩
        · rw [ref4, inp4, andU_small ⟨b0.1, h⟩]
      · have hb := s64_big (g := g0) (by omega)
        have ha := andU_255 g0
        have he : s64 (andU g0 255) = andU g0 255 := s64_in (by omega)
        have hwy : (inp4 g0).Wf := ⟨zi, zu, zu, zm, zi, zi, zi, zu, zu, s64_range _⟩
        rw [unpackF, refUnpackF, if_neg hk, if_neg hk, unp4, ref4, ← pack_eq hwy]
        have hx : toldE ⟨2, 0, 0, 0, 0, 0, 0, 0, 0, 0, s64 g0⟩ = 40 := by
          show (if ([upToF 9001 (s64 g0) 255].all (·.fits)) = true ∧ _ then (0 : Int) else 40) = 40
          refine if_neg (fun h => hb ?_)
          have := h.1
          simpa [upToF] using this
        rw [if_neg, if_neg]
        · rintro ⟨e1, e2⟩
          have ht : toldE (inp4 g0) = 0 := by
            unfold packF at e1
            split at e1
            · assumption
            · exact e1
          rw [packF, if_pos ht] at e2
          have e3 : frameF 4 (numsF [upToF 9001 (s64 (andU g0 255)) 255]) = ⟨4, [g0, g1, g2, g3, g4, g5, g6]⟩ := e2
          have e4 : add64 0 (s64 (andU g0 255) % 18446744073709551616) = g0 := by
            have := congrArg Frame.words e3
            simp only [frameF] at this
            exact (List.cons.inj this).1
          rw [he, Int.emod_eq_of_lt ha.1 (by omega), add64_zero (by omega)] at e4
          omega
        · rintro ⟨e1, e2⟩
          rw [packF, if_neg (by rw [hx]; decide), hx] at e1
          cases e1
set_option maxRecDepth 100000 in
theorem open_frame {H : Type} {enc : TypeId × Value → H} {W : World} {base : Nat} {v : Value} {d : DataW H} {p : List MemPlace} (hv : Value.okWide Go.Proofs.Tryd.prog W .any base 40 v) (h : DataW.Trod enc Go.Proofs.Tryd.prog W 0 (fun _ => true) true 40 v d p) :
    ∃ k g0 g1 g2 g3 g4 g5 g6, v = .agg (frV k g0 g1 g2 g3 g4 g5 g6).toArray ∧ (0 ≤ k ∧ k ≤ 255) ∧ (0 ≤ g0 ∧ g0 ≤ 18446744073709551615) ∧ (0 ≤ g1 ∧ g1 ≤ 18446744073709551615) ∧ (0 ≤ g2 ∧ g2 ≤ 18446744073709551615) ∧ (0 ≤ g3 ∧ g3 ≤ 18446744073709551615) ∧ (0 ≤ g4 ∧ g4 ≤ 18446744073709551615) ∧ (0 ≤ g5 ∧ g5 ≤ 18446744073709551615) ∧ (0 ≤ g6 ∧ g6 ≤ 18446744073709551615) := by
  obtain ⟨cs, rfl, hcs⟩ := okWide_struct Go.Proofs.Tryd.underlying40 hv
  obtain ⟨fuel, hf⟩ := h
  have hp := trod_plain 20 _ _ so.api_Frame fuel _ _ hf
  have e : (Value.agg cs).cells.toList = cs.toList := rfl
  rw [e] at hp
  obtain ⟨ha, hb⟩ := hp
  obtain ⟨c0, r0, q0, i0, ha⟩ := areSorts_cons ha
  obtain ⟨c1, r1, rfl, i1, ha⟩ := areSorts_cons ha
  obtain ⟨c2, r2, rfl, i2, ha⟩ := areSorts_cons ha
  obtain ⟨c3, r3, rfl, i3, ha⟩ := areSorts_cons ha
  obtain ⟨c4, r4, rfl, i4, ha⟩ := areSorts_cons ha
  obtain ⟨c5, r5, rfl, i5, ha⟩ := areSorts_cons ha
  obtain ⟨c6, r6, rfl, i6, ha⟩ := areSorts_cons ha
  obtain ⟨c7, r7, rfl, i7, ha⟩ := areSorts_cons ha
  obtain rfl := areSorts_nil ha
  rw [q0] at hb
  simp only [List.all_cons, List.all_nil, Bool.and_eq_true] at hb
  obtain ⟨n0, rfl, w0⟩ := isSort_int' i0 hb.1
  obtain ⟨n1, rfl, w1⟩ := isSort_int' i1 hb.2.1
  obtain ⟨n2, rfl, w2⟩ := isSort_int' i2 hb.2.2.1
  obtain ⟨n3, rfl, w3⟩ := isSort_int' i3 hb.2.2.2.1
  obtain ⟨n4, rfl, w4⟩ := isSort_int' i4 hb.2.2.2.2.1
  obtain ⟨n5, rfl, w5⟩ := isSort_int' i5 hb.2.2.2.2.2.1
  obtain ⟨n6, rfl, w6⟩ := isSort_int' i6 hb.2.2.2.2.2.2.1
  obtain ⟨n7, rfl, w7⟩ := isSort_int' i7 hb.2.2.2.2.2.2.2.1
  refine ⟨n0, n1, n2, n3, n4, n5, n6, n7, ?_, wf_bounds w0, wf_bounds w1, wf_bounds w2, wf_bounds w3, wf_bounds w4, wf_bounds w5, wf_bounds w6, wf_bounds w7⟩
  congr 1
  apply Array.ext'
  rw [q0]
  rfl
end Go.Rx
namespace Go.Proofs.YthpejgmkiomfhaaDoor
open Go Go.RowKit Go.WideShapes Go.ChangeShapes Go.ChangeAt Go.Rx
set_option linter.unusedVariables false
end Go.Proofs.YthpejgmkiomfhaaDoor
namespace Go.Rx
open Go Go.RowKit
set_option linter.unusedVariables false
set_option linter.unusedSimpArgs false
def evWordsM (ws : List Int) : List (Int × Int) :=
  [(34, ws[0]!), (11, ws[1]!), (37, ws[2]!), (41, ws[2]!), (1, andU ws[3]! 4294967295), (54, andU (down ws[3]! 32) 255), (40, andU (down ws[3]! 40) 255), (378, andU (down ws[3]! 48) 255), (44, andU ws[4]! 4294967295), (103, down ws[4]! 32), (38, ws[5]!), (210, ws[6]!)]
def unpackEvX (k : Int) (fs : List Fld) (ws : List Int) : Event := eventOfF (k - 64) (someF fs (evWordsM ws))
def unpackEvF (f : Frame) : Event × Int := match evFieldsF (ev0 (f.kind - 64)) with
  | none => (ev0 0, 41)
  | some fs => if (packEvF (unpackEvX f.kind fs f.words)).2 = 0 ∧ (packEvF (unpackEvX f.kind fs f.words)).1 = f then (unpackEvX f.kind fs f.words, 0) else (ev0 0, 40)
def unpackEvV (p : Event × Int) : Value := .tuple #[.agg p.1.enc.toArray, .int .i64 p.2]
theorem msgUnpackEvOf {w : World} {k : Int} {fs : List Fld} {bs : List Int} {vm : Value} (hm : RMp .i64 .u64 w [] vm (someF fs (evWordsM bs))) : Spec Go.Proofs.Tryd.prog 54 #[.int .i64 (k - 64), vm] w [] (fun u _ => u = .agg (unpackEvX k fs bs).enc.toArray) := msgEventOf hm
theorem packEvF_len (e : Event) : (packEvF e).1.words.length = 7 := by
  unfold packEvF
  split
  · split <;> rfl
  · rfl
end Go.Rx
namespace Go.Rx
open Go Go.RowKit
set_option linter.unusedVariables false
set_option linter.unusedSimpArgs false
def evTakeGo (f : Frame) (l : List RF) (a : Event) : Event := l.foldl (fun a x => withEventF a x.tag (takenF f x)) a
theorem evTakeGo_snoc (f : Frame) (l : List RF) (a : Event) (i : Nat) (h : i < l.length) : evTakeGo f (l.take (i + 1)) a = withEventF (evTakeGo f (l.take i) a) l[i]!.tag (takenF f l[i]!) := by
  have : l.take (i + 1) = l.take i ++ [l[i]!] := by
    rw [List.take_succ_eq_append_getElem h, getElem!_pos l i h]
  rw [this]
  unfold evTakeGo
  rw [List.foldl_append]
  rfl
def refUnpackEvI (f : Frame) : Event := evTakeGo f (toldRF (f.kind - 64)) (ev0 (f.kind - 64))
def refUnpackEvF (f : Frame) : Event × Int := if ¬ (1 ≤ f.kind - 64 ∧ f.kind - 64 ≤ 5) then (ev0 0, 41) else if (refPackEvF (refUnpackEvI f)).2 = 0 ∧ (refPackEvF (refUnpackEvI f)).1 = f then (refUnpackEvI f, 0) else (ev0 0, 40)
theorem refPackEvF_len (x : Event) : (refPackEvF x).1.words.length = 7 := by
  unfold refPackEvF
  split
  · split
    · exact laidGo_length _ _ _
    · rfl
  · rfl
end Go.Rx
/- The law bourselaw04.MessageEvents gives true, whatever the event and the frame; the input reads as it did. No condition beyond the row's own. -/
namespace Go.Rx
open Go Go.RowKit Go.WideShapes
set_option linter.unusedVariables false
set_option linter.unusedSimpArgs false
theorem andU_m32 {g : Int} (h : 0 ≤ g ∧ g ≤ 4294967295) : andU g 4294967295 = g := by
  have h64 : (2 ^ IntKind.u64.bits : Int) = 18446744073709551616 := rfl
  have hs : IntKind.u64.signed = false := rfl
  have h1 : (BitVec.ofInt IntKind.u64.bits g).toNat = g.toNat := by
    rw [BitVec.toNat_ofInt]
    have : ((2 ^ IntKind.u64.bits : Nat) : Int) = 18446744073709551616 := rfl
    rw [this, Int.emod_eq_of_lt h.1 (by omega)]
  have h2 : (BitVec.ofInt IntKind.u64.bits 4294967295).toNat = 2 ^ 32 - 1 := rfl
  have e : (BitVec.ofInt IntKind.u64.bits g &&& BitVec.ofInt IntKind.u64.bits 4294967295).toNat = g.toNat := by
    rw [BitVec.toNat_and, h1, h2, Nat.and_two_pow_sub_one_eq_mod]
    exact Nat.mod_eq_of_lt (by omega)
  simp only [andU, IntKind.wrap, h64, hs, Bool.false_and, e]
  rw [Int.emod_eq_of_lt (by omega) (by omega)]
  simp
  omega
theorem down32 {g : Int} (h : 0 ≤ g ∧ g ≤ 18446744073709551615) : 0 ≤ down g 32 ∧ down g 32 ≤ 4294967295 := by
  have e : (2 : Int) ^ (min (Int.toNat 32) IntKind.u64.bits) = 4294967296 := rfl
  rw [down, e]
  omega
theorem unpackEv_of {k : Int} {ws : List Int} {fs : List Fld} (hF : evFieldsF (ev0 (k - 64)) = some fs) (hk : 1 ≤ k - 64 ∧ k - 64 ≤ 5) {x : Event} (h1 : unpackEvX k fs ws = x) (h2 : refUnpackEvI ⟨k, ws⟩ = x) (hw : x.Wf) : unpackEvF ⟨k, ws⟩ = refUnpackEvF ⟨k, ws⟩ := by
  rw [refUnpackEvF, if_neg (fun h => h hk), h2, ← packEv_eq hw]
  unfold unpackEvF
  rw [hF]
  dsimp only
  rw [h1]
theorem unpackEv_eq {k g0 g1 g2 g3 g4 g5 g6 : Int} (b0 : 0 ≤ g0 ∧ g0 ≤ 18446744073709551615) (b1 : 0 ≤ g1 ∧ g1 ≤ 18446744073709551615) (b2 : 0 ≤ g2 ∧ g2 ≤ 18446744073709551615) (b4 : 0 ≤ g4 ∧ g4 ≤ 18446744073709551615) (b5 : 0 ≤ g5 ∧ g5 ≤ 18446744073709551615) (b6 : 0 ≤ g6 ∧ g6 ≤ 18446744073709551615) :
    unpackEvF ⟨k, [g0, g1, g2, g3, g4, g5, g6]⟩ = refUnpackEvF ⟨k, [g0, g1, g2, g3, g4, g5, g6]⟩ := by
  by_cases hk : 1 ≤ k - 64 ∧ k - 64 ≤ 5
  · have : k = 65 ∨ k = 66 ∨ k = 67 ∨ k = 68 ∨ k = 69 := by omega
    have z : ∀ n : Int, 0 ≤ n % 4294967296 ∧ n % 4294967296 ≤ 4294967295 := fun n => by omega
    have zi : -9223372036854775808 ≤ (0 : Int) ∧ (0 : Int) ≤ 9223372036854775807 := by decide
    have zu : (0 : Int) ≤ 0 ∧ (0 : Int) ≤ 18446744073709551615 := by decide
    have zm : (0 : Int) ≤ 0 ∧ (0 : Int) ≤ 4294967295 := by decide
    have hd := andU_m32 (down32 b4)
    rcases this with rfl | rfl | rfl | rfl | rfl
    · refine unpackEv_of (fs := evFields1 (ev0 1)) rfl hk (x := ⟨g0, 1, g1, 0, 0, andU g3 4294967295 % 4294967296, s64 (andU (down g3 32) 255), s64 (andU (down g3 40) 255), s64 (andU g4 4294967295), g5, g6, 0, 0⟩) rfl ?_ ⟨b0, b1, zu, zu, z _, s64_range _, s64_range _, s64_range _, b5, b6, zi, zi⟩
      show (⟨down g0 0, 1, down g1 0, 0, 0, andU (down g3 0) 4294967295 % 4294967296, s64 (andU (down g3 32) 255), s64 (andU (down g3 40) 255), s64 (andU (down g4 0) 4294967295), down g5 0, down g6 0, 0, 0⟩ : Event) = _
      simp only [down_zero]
    · refine unpackEv_of (fs := evFields2 (ev0 2)) rfl hk (x := ⟨g0, 2, g1, 0, g2, 0, 0, 0, 0, 0, 0, 0, s64 (down g4 32)⟩) rfl ?_ ⟨b0, b1, zu, b2, zm, zi, zi, zi, zu, zu, zi, s64_range _⟩
      show (⟨down g0 0, 2, down g1 0, 0, down g2 0, 0, 0, 0, 0, 0, 0, 0, s64 (andU (down g4 32) 4294967295)⟩ : Event) = _
      simp only [down_zero, hd]
    · refine unpackEv_of (fs := evFields3 (ev0 3)) rfl hk (x := ⟨g0, 3, g1, g2, 0, 0, s64 (andU (down g3 32) 255), 0, s64 (andU g4 4294967295), g5, 0, 0, 0⟩) rfl ?_ ⟨b0, b1, b2, zu, zm, s64_range _, zi, s64_range _, b5, zu, zi, zi⟩
      show (⟨down g0 0, 3, down g1 0, down g2 0, 0, 0, s64 (andU (down g3 32) 255), 0, s64 (andU (down g4 0) 4294967295), down g5 0, 0, 0, 0⟩ : Event) = _
      simp only [down_zero]
    · refine unpackEv_of (fs := evFields4 (ev0 4)) rfl hk (x := ⟨g0, 4, g1, 0, 0, 0, 0, 0, 0, g5, 0, s64 (andU (down g3 48) 255), 0⟩) rfl ?_ ⟨b0, b1, zu, zu, zm, zi, zi, zi, b5, zu, s64_range _, zi⟩
      show (⟨down g0 0, 4, down g1 0, 0, 0, 0, 0, 0, 0, down g5 0, 0, s64 (andU (down g3 48) 255), 0⟩ : Event) = _
      simp only [down_zero]
    · refine unpackEv_of (fs := evFields5 (ev0 5)) rfl hk (x := ⟨g0, 5, g1, 0, 0, 0, 0, 0, s64 (andU g4 4294967295), g5, 0, 0, 0⟩) rfl ?_ ⟨b0, b1, zu, zu, zm, zi, zi, s64_range _, b5, zu, zi, zi⟩
      show (⟨down g0 0, 5, down g1 0, 0, 0, 0, 0, 0, s64 (andU (down g4 0) 4294967295), down g5 0, 0, 0, 0⟩ : Event) = _
      simp only [down_zero]
  · rw [refUnpackEvF, if_pos hk]
    have hF : evFieldsF (ev0 (k - 64)) = none := by
      have e : (ev0 (k - 64)).kind = k - 64 := rfl
      rw [evFieldsF, e, if_neg (by omega), if_neg (by omega), if_neg (by omega), if_neg (by omega), if_neg (by omega)]
    unfold unpackEvF
    rw [hF]
set_option maxRecDepth 100000 in
theorem open_event {H : Type} {enc : TypeId × Value → H} {W : World} {base : Nat} {v : Value} {d : DataW H} {p : List MemPlace} (hv : Value.okWide Go.Proofs.Tryd.prog W .any base 30 v) (h : DataW.Trod enc Go.Proofs.Tryd.prog W 0 (fun _ => true) true 30 v d p) :
    ∃ i : Event, v = .agg i.enc.toArray ∧ i.Wf := by
  obtain ⟨cs, rfl, hcs⟩ := okWide_struct Go.Proofs.Tryd.underlying30 hv
  obtain ⟨fuel, hf⟩ := h
  have hp := trod_plain 20 _ _ so.api_Event fuel _ _ hf
  have e : (Value.agg cs).cells.toList = cs.toList := rfl
  rw [e] at hp
  obtain ⟨ha, hb⟩ := hp
  obtain ⟨c0, r0, q0, i0, ha⟩ := areSorts_cons ha
  obtain ⟨c1, r1, rfl, i1, ha⟩ := areSorts_cons ha
  obtain ⟨c2, r2, rfl, i2, ha⟩ := areSorts_cons ha
  obtain ⟨c3, r3, rfl, i3, ha⟩ := areSorts_cons ha
  obtain ⟨c4, r4, rfl, i4, ha⟩ := areSorts_cons ha
  obtain ⟨c5, r5, rfl, i5, ha⟩ := areSorts_cons ha
  obtain ⟨c6, r6, rfl, i6, ha⟩ := areSorts_cons ha
  obtain ⟨c7, r7, rfl, i7, ha⟩ := areSorts_cons ha
  obtain ⟨c8, r8, rfl, i8, ha⟩ := areSorts_cons ha
  obtain ⟨c9, r9, rfl, i9, ha⟩ := areSorts_cons ha
  obtain ⟨c10, r10, rfl, i10, ha⟩ := areSorts_cons ha
  obtain ⟨c11, r11, rfl, i11, ha⟩ := areSorts_cons ha
  obtain ⟨c12, r12, rfl, i12, ha⟩ := areSorts_cons ha
  obtain rfl := areSorts_nil ha
  rw [q0] at hb
  simp only [List.all_cons, List.all_nil, Bool.and_eq_true] at hb
  obtain ⟨n0, rfl, w0⟩ := isSort_int' i0 hb.1
  obtain ⟨n1, rfl, w1⟩ := isSort_int' i1 hb.2.1
  obtain ⟨n2, rfl, w2⟩ := isSort_int' i2 hb.2.2.1
  obtain ⟨n3, rfl, w3⟩ := isSort_int' i3 hb.2.2.2.1
  obtain ⟨n4, rfl, w4⟩ := isSort_int' i4 hb.2.2.2.2.1
  obtain ⟨n5, rfl, w5⟩ := isSort_int' i5 hb.2.2.2.2.2.1
  obtain ⟨n6, rfl, w6⟩ := isSort_int' i6 hb.2.2.2.2.2.2.1
  obtain ⟨n7, rfl, w7⟩ := isSort_int' i7 hb.2.2.2.2.2.2.2.1
  obtain ⟨n8, rfl, w8⟩ := isSort_int' i8 hb.2.2.2.2.2.2.2.2.1
  obtain ⟨n9, rfl, w9⟩ := isSort_int' i9 hb.2.2.2.2.2.2.2.2.2.1
  obtain ⟨n10, rfl, w10⟩ := isSort_int' i10 hb.2.2.2.2.2.2.2.2.2.2.1
  obtain ⟨n11, rfl, w11⟩ := isSort_int' i11 hb.2.2.2.2.2.2.2.2.2.2.2.1
  obtain ⟨n12, rfl, w12⟩ := isSort_int' i12 hb.2.2.2.2.2.2.2.2.2.2.2.2.1
  refine ⟨⟨n0, n1, n2, n3, n4, n5, n6, n7, n8, n9, n10, n11, n12⟩, ?_, ⟨wf_bounds w0, wf_bounds w2, wf_bounds w3, wf_bounds w4, wf_bounds w5, wf_bounds w6, wf_bounds w7, wf_bounds w8, wf_bounds w9, wf_bounds w10, wf_bounds w11, wf_bounds w12⟩⟩
  congr 1
  apply Array.ext'
  rw [q0]
  rfl
end Go.Rx
namespace Go.Proofs.YthpejgmkiomfhaaDoor
open Go Go.RowKit Go.WideShapes Go.ChangeShapes Go.ChangeAt Go.Rx
set_option linter.unusedVariables false
end Go.Proofs.YthpejgmkiomfhaaDoor
