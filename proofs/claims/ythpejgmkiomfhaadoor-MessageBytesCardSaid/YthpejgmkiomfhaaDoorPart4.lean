/- Parts of the proof. -/
import Derived.Test.YthpejgmkiomfhaaDoorPart3
import Derived.Test.YthpejgmkiomfhaaDoorPart2
import Derived.Test.YthpejgmkiomfhaaDoorRxL2
import Derived.Test.YthpejgmkiomfhaaDoorPart1
set_option linter.unusedVariables false
set_option linter.unusedSimpArgs false
/- The document's Encode is the plain function. -/
namespace Go.Rx
open Go Go.RowKit Go.Lib Go.Proofs.YthpejgmkiomfhaaDoor
set_option linter.unusedVariables false
set_option linter.unusedSimpArgs false
abbrev brsS : ByteArray := ⟨#[66, 82, 83, 46, 49]⟩
theorem decL_one {n : Nat} (h : n < 10) : decL n = [48 + (n : Int)] := by
  unfold decL
  rw [decDigits_one h]
  simp only [List.map_cons, List.map_nil]
  have : n = 0 ∨ n = 1 ∨ n = 2 ∨ n = 3 ∨ n = 4 ∨ n = 5 ∨ n = 6 ∨ n = 7 ∨ n = 8 ∨ n = 9 := by omega
  rcases this with rfl | rfl | rfl | rfl | rfl | rfl | rfl | rfl | rfl | rfl <;> rfl
theorem decL_ten : decL 10 = [49, 48] := by
  unfold decL
  rw [decDigits_two (by decide) (by decide)]
  rfl
theorem front_eq (kind : ByteArray) (xs : List Tg) (body : List Int) (h : body = bodyL kind xs) : strOf (fieldL 8 brsS) ++ strOf (fieldL 9 (decS body.length)) ++ strOf body = strOf (frontL kind xs) := by
  rw [← strOf_app, ← strOf_app, h]
  congr 1
  unfold frontL fieldL fldL
  rw [decL_one (by decide), decL_one (by decide), bytesOf_dec]
  have e : bytesOf brsS = [66, 82, 83, 46, 49] := by decide
  rw [e]
  simp [beginL]
theorem last_eq (l : List Int) : fieldL 10 (strOf (threeL (sumB l))) = lastL l := by
  have hs := sumB_range l
  unfold fieldL fldL lastL
  rw [decL_ten, bytesOf_str (by
    intro n hn
    simp only [threeL, List.mem_cons, List.not_mem_nil, or_false] at hn
    omega)]
  rfl
theorem body_bytes (kind : ByteArray) (xs : List Tg) : isBytes (bodyL kind xs) := fun x hx => by
  unfold bodyL at hx
  rcases List.mem_append.1 hx with hx | hx
  · exact field_bytes _ _ x hx
  · obtain ⟨t, _, ht⟩ := List.mem_flatMap.1 hx
    exact field_bytes _ _ x ht
theorem refused_bad {xs : List Tg} {t : Tg} (h : (!tagB t.tag || thereB xs t.tag) = true) : refusedF xs t = 30 := if_pos h
theorem refused_val {xs : List Tg} {t : Tg} (h : (!tagB t.tag || thereB xs t.tag) = false) (h2 : valueB t.value = false) : refusedF xs t = 31 := by
  unfold refusedF
  rw [if_neg (by rw [h]; decide), if_pos (by rw [h2]; rfl)]
theorem refused_none {xs : List Tg} {t : Tg} (h : (!tagB t.tag || thereB xs t.tag) = false) (h2 : valueB t.value = true) : refusedF xs t = 0 := by
  unfold refusedF
  rw [if_neg (by rw [h]; decide), if_neg (by rw [h2]; decide)]
set_option maxHeartbeats 2000000 in
set_option maxRecDepth 100000 in
theorem refEncode {w : World} {v : Value} {kind : ByteArray} {xs : List Tg} (hr : RSl Tg.enc 2 w [] v xs) (hk : kind.size ≤ 281474976710656) (hsz : ∀ t ∈ xs, t.value.size ≤ 70368744177664) (hb : (bodyL kind xs).length ≤ 1099511627776) :
    Spec Go.Proofs.Tryd.prog 24 #[.string kind, v] w [] (fun u H' => ∃ A c, u = .tuple #[.slice A (encF kind xs).2.length c, .int .i64 (encF kind xs).1] ∧ H' = [bytesC (.slice A (encF kind xs).2.length c) (encF kind xs).2]) := by
  have hsm := hr.small
  obtain ⟨ec, eb, hef⟩ : ∃ a b, encF kind xs = (a, b) := ⟨_, _, rfl⟩
  rw [hef]
  obtain ⟨f35, hf35⟩ : ∃ f, f = fieldL 35 kind := ⟨_, rfl⟩
  obtain ⟨body, hbody⟩ : ∃ f, f = bodyL kind xs := ⟨_, rfl⟩
  obtain ⟨front, hfront⟩ : ∃ f, f = frontL kind xs := ⟨_, rfl⟩
  obtain ⟨la, hla⟩ : ∃ f, f = lastL front := ⟨_, rfl⟩
  obtain ⟨line, hline⟩ : ∃ f, f = lineL kind xs := ⟨_, rfl⟩
  have hll : line = front ++ la := by rw [hline, hla, hfront]; rfl
  have hl7 : la.length = 7 := by rw [hla]; rfl
  have hll3 : line.length = front.length + 7 := by rw [hll, List.length_append, hl7]
  have hd19 := decL_nineteen hb
  have hfl := front_len kind xs
  rw [← hfront] at hfl
  rw [← hbody] at hb hd19 hfl
  have hdz : (decS body.length).size = (decL body.length).length := by rw [← strOf_dec, strOf_size]
  have hbs0 := body_bytes kind xs
  rw [← hbody] at hbs0
  have hfB : isBytes front := by
    rw [hfront]
    unfold frontL
    rw [← hbody]
    intro x hx
    rcases List.mem_append.1 hx with hx | hx
    · rcases List.mem_append.1 hx with hx | hx
      · rcases List.mem_append.1 hx with hx | hx
        · simp only [beginL, List.mem_cons, List.not_mem_nil, or_false] at hx
          omega
        · exact decL_bytes _ x hx
      · rw [List.mem_singleton.1 hx]; decide
    · exact hbs0 x hx
  have hlB : isBytes line := by
    rw [hll]
    intro x hx
    rcases List.mem_append.1 hx with hx | hx
    · exact hfB x hx
    · rw [hla] at hx; exact isBytes_last _ x hx
  have hfe := front_eq kind xs body hbody
  rw [← hfront] at hfe
  have hle := last_eq front
  rw [← hla] at hle
  have hsm3 := sumB_range front
  have hfla : strOf front ++ strOf la = strOf line := by rw [← strOf_app, ← hll]
  have hfss : (strOf front).size = front.length := strOf_size _
  have hfbb : bytesOf (strOf front) = front := bytesOf_str hfB
  have hlss : (strOf line).size = line.length := strOf_size _
  have hlbb : bytesOf (strOf line) = line := bytesOf_str hlB
  have h9 : (fieldL 9 (decS body.length)).length = (decL body.length).length + 3 := by rw [field_len, decL_one (by decide), hdz]; simp; omega
  have h8 : (fieldL 8 brsS).length = 8 := by rw [field_len, decL_one (by decide)]; rfl
  obtain ⟨f8, hf8⟩ : ∃ f, f = fieldL 8 brsS := ⟨_, rfl⟩
  obtain ⟨f9, hf9⟩ : ∃ f, f = fieldL 9 (decS body.length) := ⟨_, rfl⟩
  rw [← hf8, ← hf9] at hfe
  rw [← hf8] at h8
  rw [← hf9] at h9
  have hs8 : ∀ w' : World, Spec Go.Proofs.Tryd.prog 50 #[.int .i64 8, .string brsS] w' [] (fun u _ => u = .string (strOf f8)) := fun w' => by
    have h := refField (w := w') (n := 8) (v := brsS) (by decide) (by decide)
    rw [← hf8] at h
    exact h
  have hs9 : ∀ w' : World, Spec Go.Proofs.Tryd.prog 50 #[.int .i64 9, .string (decS body.length)] w' [] (fun u _ => u = .string (strOf f9)) := fun w' => by
    have h := refField (w := w') (n := 9) (v := decS body.length) (by decide) (by omega)
    rw [← hf9] at h
    exact h
  have hs10 : ∀ w' : World, Spec Go.Proofs.Tryd.prog 50 #[.int .i64 10, .string (strOf (threeL (sumB front)))] w' [] (fun u _ => u = .string (strOf la)) := fun w' => by
    have h := refField (w := w') (n := 10) (v := strOf (threeL (sumB front))) (by decide) (by rw [strOf_size]; show 3 ≤ _; omega)
    rw [hle] at h
    exact h
  refine Spec.enter (fn := Go.Proofs.Tryd.f24) (n := 99) [.string kind, v] Go.Proofs.Tryd.func24 (by kernel_rfl) rfl Go.Proofs.Tryd.ntmps24 Go.Proofs.Tryd.results24 rfl (Own.nil _) ?_
  refine JC.re (fun w h => h.nilOwn 5 1) ?_
  refine JC.rs ?_
  refine Seq.p rfl Ev.assign ?_
  refine Seq.p rfl Ev.assign ?_
  refine Seq.nil ?_
  refine JC.seq ?_
  refine JC.rs ?_
  refine Seq.p rfl Ev.move ?_
  refine Seq.callP rfl (fun w hw => refKind hk) ?_
  refine Seq.p rfl Ev.not ?_
  refine Seq.nil ?_
  first | refine JC.c (ht := fun c12 => ?_) (hf := fun c12 => ?_) | refine JC.cb (ht := fun c12 => ?_) (hf := fun c12 => ?_)
  · -- then_t12
    have h1 : kindB kind = false := by simpa using c12
    refine JC.rs ?_
    refine Seq.p rfl Ev.assign ?_
    refine Seq.p rfl Ev.assign ?_
    refine Seq.nil ?_
    refine JC.ret ?_
    -- return 0
    show retQ _ _ _ _ _ _ _ _
    refine ret2 (H' := [bytesC (.slice none 0 0) []]) (hp := (by repeat (first | exact Part.nil _ | refine Part.at (by repeat (first | exact At.z | apply At.s)) ?_))) (hpost := ?_)
    rw [encF_kind h1] at hef
    cases hef
    exact ⟨none, 0, rfl, rfl⟩
  · -- else_t12
    have h1 : ¬ kindB kind = false := by simpa using c12
    refine JC.skip ?_
    refine JC.seq ?_
    refine JC.rs ?_
    refine Seq.p rfl Ev.move ?_
    refine Seq.p rfl (Ev.lenSl sl.sl_api_Tag (hr := hr.r)) ?_
    refine Seq.p rfl Ev.gt ?_
    refine Seq.nil ?_
    first | refine JC.c (ht := fun c15 => ?_) (hf := fun c15 => ?_) | refine JC.cb (ht := fun c15 => ?_) (hf := fun c15 => ?_)
    · -- then_t15
      refine JC.rs ?_
      refine Seq.p rfl Ev.assign ?_
      refine Seq.p rfl Ev.assign ?_
      refine Seq.nil ?_
      refine JC.ret ?_
      -- return 1
      show retQ _ _ _ _ _ _ _ _
      refine ret2 (H' := [bytesC (.slice none 0 0) []]) (hp := (by repeat (first | exact Part.nil _ | refine Part.at (by repeat (first | exact At.z | apply At.s)) ?_))) (hpost := ?_)
      rw [encF_many h1 (by omega)] at hef
      cases hef
      exact ⟨none, 0, rfl, rfl⟩
    · -- else_t15
      have h2 : ¬ 64 < xs.length := by omega
      refine JC.skip ?_
      refine JC.seq ?_
      refine JC.rs ?_
      refine Seq.p rfl Ev.assign ?_
      refine Seq.nil ?_
      refine JC.blk ?_
      refine JC.loop (α := Nat) (I := fun i e1 H1 => Has [4, 5, 6, 16, 17, 18, 19, 20, 21, 22, 23, 24, 25, 26, 27, 28, 29, 30, 31, 32, 33, 34, 35, 36, 37, 38, 39, 40, 41, 42, 43, 44, 45, 46] [(6, .int .i64 (i : Int))] _ e1 ∧ H1 = [bytesC (.slice none 0 0) []] ∧ i ≤ xs.length ∧ encE (xs.take i) (xs.drop i) = encE [] xs ∧ ∀ j < i, (((xs[j]!).tag.toNat : Nat) : Int) = (xs[j]!).tag ∧ (xs[j]!).tag.toNat < 10000) (μ := fun i => xs.length - i) 0 ⟨Has.mk Off.refl (allLook_cons (by repeat (first | exact Look.here | apply Look.there (hne := rfl) | exact Look.const | apply Look.mix rfl | exact Look.arg0 | apply Look.args | exact Look.func)) allLook_nil), rfl, by omega, by simp, by intro j hj; omega⟩ ?_
      rintro i _ _ ⟨⟨u, rfl⟩, rfl, hi, he, hok⟩; dsimp only [setL]
      refine JC.seq ?_
      refine JC.rs ?_
      refine Seq.p rfl Ev.move ?_
      refine Seq.p rfl Ev.move ?_
      refine Seq.p rfl (Ev.lenSl sl.sl_api_Tag (hr := hr.r)) ?_
      refine Seq.p rfl Ev.lt ?_
      refine Seq.nil ?_
      first | refine JC.c (ht := fun c19 => ?_) (hf := fun c19 => ?_) | refine JC.cb (ht := fun c19 => ?_) (hf := fun c19 => ?_)
      · -- then_t19
        have hi2 : i < xs.length := by omega
        have htake : RSl Tg.enc 2 w [] (subSl v 0 i 2) (xs.take i) := by
          have h3 := hr.sub (lo := 0) (hi := i) (by omega) (by omega)
          rwa [List.drop_zero] at h3
        have hvs := hsz _ (get_memS hi2)
        refine JC.skip ?_
        refine JC.seq ?_
        refine JC.blk ?_
        refine JC.seq ?_
        refine JC.qs mixed (by kernel_rfl) ?_
        refine Qui.p rfl Ev.move ?_
        refine Qui.p rfl Ev.move ?_
        refine Qui.p rfl (Ev.iaN sl.sl_api_Tag (hr := hr.r)) ?_
        refine Qui.p rfl (Ev.fa fd.api_Tag_0) ?_
        refine Qui.p rfl (Ev.ldE sc.int (hr := hr.r)) ?_
        refine Qui.call rfl (fun w hw => refIsTag) ?_
        refine Qui.p rfl Ev.not ?_
        refine Qui.p rfl Ev.move ?_
        refine Qui.orG (D := [29, 30, 31, 32, 33, 34, 35, 36, 37, 38, 39]) (d := 29) (t := 39) (k := 10) (hn := fun h29 => ?_) (hx := ?_)
        · repeat (first | refine Qui.gn rfl rfl rfl rfl ?_ | refine Qui.gu rfl rfl rfl ?_)
          refine Qui.p rfl Ev.pickT ?_
          exact Qui.nil ⟨(by repeat (first | with_reducible exact Off.refl | refine Off.upd ?_ rfl | exact Off.mix | refine Off.mix2 ?_ rfl)), Look.here⟩
        apply Exists.intro
        refine ⟨fun h29 => ?_, fun u39 => ?_⟩
        · try simp only [decide_eq_true_eq, decide_eq_false_iff_not, Bool.and_eq_true, Bool.or_eq_true, Bool.not_eq_true', Bool.not_eq_false', Bool.or_eq_false_iff, Bool.and_eq_false_imp] at h29
          refine Qui.gy rfl rfl rfl ?_
          refine Qui.p rfl Ev.move ?_
          refine Qui.gy rfl rfl rfl ?_
          refine Qui.p rfl Ev.move ?_
          refine Qui.gy rfl rfl rfl ?_
          refine Qui.p rfl (Ev.cut sl.sl_api_Tag (hr := hr.r) (l := 0) (h := i) (hlo := rfl) (hhi := ⟨_, (by repeat (first | exact Look.here | apply Look.there (hne := rfl) | exact Look.const | apply Look.mix rfl | exact Look.arg0 | apply Look.args | exact Look.func))⟩)) ?_
          refine Qui.gy rfl rfl rfl ?_
          refine Qui.p rfl Ev.move ?_
          refine Qui.gy rfl rfl rfl ?_
          refine Qui.p rfl Ev.move ?_
          refine Qui.gy rfl rfl rfl ?_
          refine Qui.p rfl (Ev.iaN sl.sl_api_Tag (hr := hr.r)) ?_
          refine Qui.gy rfl rfl rfl ?_
          refine Qui.p rfl (Ev.fa fd.api_Tag_0) ?_
          refine Qui.gy rfl rfl rfl ?_
          refine Qui.p rfl (Ev.ldE sc.int (hr := hr.r)) ?_
          refine Qui.gy rfl rfl rfl ?_
          refine Qui.call rfl (fun w hw => refThere (htake.up hw)) ?_
          refine Qui.p rfl Ev.pickF ?_
          exact Qui.nil ⟨(by repeat (first | with_reducible exact Off.refl | refine Off.upd ?_ rfl | exact Off.mix | refine Off.mix2 ?_ rfl)), Look.here⟩
        refine Qui.nil ?_
        first | refine JC.c (ht := fun c39 => ?_) (hf := fun c39 => ?_) | refine JC.cb (ht := fun c39 => ?_) (hf := fun c39 => ?_)
        · -- then_t39
          refine JC.rs ?_
          refine Seq.p rfl Ev.assign ?_
          refine Seq.p rfl Ev.assign ?_
          refine Seq.nil ?_
          refine JC.ret ?_
          -- return 2
          show retQ _ _ _ _ _ _ _ _
          refine ret2 (H' := [bytesC (.slice none 0 0) []]) (hp := (by repeat (first | exact Part.nil _ | refine Part.at (by repeat (first | exact At.z | apply At.s)) ?_))) (hpost := ?_)
          have h4 := encE_bad hi2 (by rw [refused_bad c39]; decide)
          rw [refused_bad c39] at h4
          rw [encF_ref h1 h2 (by rw [← he, h4]; decide), ← he, h4] at hef
          cases hef
          exact ⟨none, 0, rfl, rfl⟩
        · -- else_t39
          refine JC.skip ?_
          refine JC.rs ?_
          refine Seq.p rfl Ev.move ?_
          refine Seq.p rfl Ev.move ?_
          refine Seq.p rfl (Ev.iaN sl.sl_api_Tag (hr := hr.r)) ?_
          refine Seq.p rfl (Ev.fa fd.api_Tag_1) ?_
          refine Seq.p rfl (Ev.ldE sc.string (hr := hr.r)) ?_
          refine Seq.callP rfl (fun w hw => refIsValue (by omega)) ?_
          refine Seq.p rfl Ev.not ?_
          refine Seq.nil ?_
          first | refine JC.c (ht := fun c46 => ?_) (hf := fun c46 => ?_) | refine JC.cb (ht := fun c46 => ?_) (hf := fun c46 => ?_)
          · -- then_t46
            refine JC.rs ?_
            refine Seq.p rfl Ev.assign ?_
            refine Seq.p rfl Ev.assign ?_
            refine Seq.nil ?_
            refine JC.ret ?_
            -- return 3
            show retQ _ _ _ _ _ _ _ _
            refine ret2 (H' := [bytesC (.slice none 0 0) []]) (hp := (by repeat (first | exact Part.nil _ | refine Part.at (by repeat (first | exact At.z | apply At.s)) ?_))) (hpost := ?_)
            have hq := refused_val c39 (by simpa using c46)
            have h4 := encE_bad hi2 (by rw [hq]; decide)
            rw [hq] at h4
            rw [encF_ref h1 h2 (by rw [← he, h4]; decide), ← he, h4] at hef
            cases hef
            exact ⟨none, 0, rfl, rfl⟩
          · -- else_t46
            have hq := refused_none c39 (by simpa using c46)
            have h4 := encE_next hi2 (fun h => h hq)
            obtain ⟨q1, q2, q3⟩ := refused_ok hq
            obtain ⟨g1, g2, g3⟩ := tag_range q1
            have hok2 : ∀ j < i + 1, (((xs[j]!).tag.toNat : Nat) : Int) = (xs[j]!).tag ∧ (xs[j]!).tag.toNat < 10000 := fun j hj => by
              rcases Nat.lt_or_ge j i with h | h
              · exact hok j h
              · obtain rfl : j = i := by omega
                exact ⟨g1, g2⟩
            refine JC.skip ?_
            refine JC.reg ?_
            refine Seq.p rfl Ev.move ?_
            refine Seq.p rfl (by first | exact Ev.inc | exact Ev.add) ?_
            refine Seq.p rfl Ev.assign ?_
            refine Seq.nil ?_
            exact ⟨i + 1, _, Part.refl _, ⟨Has.mk (by repeat (first | refine Off.upd ?_ rfl | exact Off.mix | refine Off.mix2 ?_ rfl | exact Off.refl)) (allLook_cons (by repeat (first | exact Look.here | apply Look.there (hne := rfl) | exact Look.const | apply Look.mix rfl | exact Look.arg0 | apply Look.args | exact Look.func)) allLook_nil), rfl, by omega, by rw [← h4]; exact he, hok2⟩, by omega⟩
      · -- else_t19
        obtain rfl : i = xs.length := by omega
        rw [List.take_length, List.drop_length] at he
        have h3 : ¬ encE [] xs ≠ 0 := fun h => h (by rw [← he]; rfl)
        have hb0 : bodyTo kind xs 0 = f35 := by rw [hf35]; simp [bodyTo]
        have hkz : kind.size ≤ 70368744177664 := by
          have h5 := bodyTo_le kind xs 0
          rw [hb0, hf35, field_len, ← hbody] at h5
          omega
        refine JC.exit ?_ -- 0
        refine JC.rs ?_
        refine Seq.p rfl Ev.move ?_
        refine Seq.callP (v := .string (strOf f35)) rfl (fun w' hw => by have h := refField (w := w') (n := 35) (v := kind) (by decide) hkz; rw [← hf35] at h; exact h) ?_
        refine Seq.p rfl Ev.assign ?_
        refine Seq.nil ?_
        refine JC.seq ?_
        refine JC.rs ?_
        refine Seq.p rfl Ev.assign ?_
        refine Seq.nil ?_
        refine JC.blk ?_
        refine JC.loop (α := Nat) (I := fun i e1 H1 => ∃ m, Has [4, 5, 7, 8, 49, 50, 51, 52, 53, 54, 55, 56, 57, 58, 59, 60, 61, 62, 63, 64, 65, 66, 67, 68, 69, 70, 71, 72, 73, 74, 75, 76, 77] [(7, .string (strOf m)), (8, .int .i64 (i : Int))] _ e1 ∧ H1 = [bytesC (.slice none 0 0) []] ∧ i ≤ xs.length ∧ m = bodyTo kind xs i) (μ := fun i => xs.length - i) 0 ⟨f35, Has.mk Off.refl (allLook_cons (by repeat (first | exact Look.here | apply Look.there (hne := rfl) | exact Look.const | apply Look.mix rfl | exact Look.arg0 | apply Look.args | exact Look.func)) (allLook_cons (by repeat (first | exact Look.here | apply Look.there (hne := rfl) | exact Look.const | apply Look.mix rfl | exact Look.arg0 | apply Look.args | exact Look.func)) allLook_nil)), rfl, by omega, hb0.symm⟩ ?_
        rintro i _ _ ⟨m, ⟨u, rfl⟩, rfl, hi, hm⟩; dsimp only [setL]
        refine JC.seq ?_
        refine JC.rs ?_
        refine Seq.p rfl Ev.move ?_
        refine Seq.p rfl Ev.move ?_
        refine Seq.p rfl (Ev.lenSl sl.sl_api_Tag (hr := hr.r)) ?_
        refine Seq.p rfl Ev.lt ?_
        refine Seq.nil ?_
        first | refine JC.c (ht := fun c52 => ?_) (hf := fun c52 => ?_) | refine JC.cb (ht := fun c52 => ?_) (hf := fun c52 => ?_)
        · -- then_t52
          have hi2 : i < xs.length := by omega
          have hvs := hsz _ (get_memS hi2)
          have hms : (strOf m).size = m.length := strOf_size m
          have hml := bodyTo_le kind xs i
          rw [← hm, ← hbody] at hml
          obtain ⟨g1, g2⟩ := hok i hi2
          have hbs := bodyTo_succ (kind := kind) hi2
          have hbl := bodyTo_le kind xs (i + 1)
          obtain ⟨fl, hfl2⟩ : ∃ f, f = fieldL (xs[i]!).tag.toNat (xs[i]!).value := ⟨_, rfl⟩
          rw [← hm, ← hfl2] at hbs
          rw [hbs, List.length_append, ← hbody] at hbl
          have hflz : (strOf fl).size = fl.length := strOf_size fl
          have hfll : (xs[i]!).value.size < fl.length := by rw [hfl2, field_len]; omega
          have hspec : ∀ w' : World, Spec Go.Proofs.Tryd.prog 50 #[.int .i64 (xs[i]!).tag, .string (xs[i]!).value] w' [] (fun u _ => u = .string (strOf fl)) := fun w' => by
            have h := refField (w := w') g2 hvs
            rw [g1, ← hfl2] at h
            exact h
          refine JC.skip ?_
          refine JC.seq ?_
          refine JC.blk ?_
          refine JC.seq ?_
          refine JC.rs ?_
          refine Seq.p rfl Ev.move ?_
          refine Seq.p rfl (Ev.lenStr st.string) ?_
          refine Seq.p rfl Ev.move ?_
          refine Seq.p rfl Ev.move ?_
          refine Seq.p rfl (Ev.iaN sl.sl_api_Tag (hr := hr.r)) ?_
          refine Seq.p rfl (Ev.fa fd.api_Tag_1) ?_
          refine Seq.p rfl (Ev.ldE sc.string (hr := hr.r)) ?_
          refine Seq.p rfl (Ev.lenStr st.string) ?_
          refine Seq.p rfl (Ev.addN (m := (strOf m).size) (c := (xs[i]!).value.size)) ?_
          refine Seq.p rfl Ev.gt ?_
          refine Seq.nil ?_
          first | refine JC.c (ht := fun c64 => ?_) (hf := fun c64 => ?_) | refine JC.cb (ht := fun c64 => ?_) (hf := fun c64 => ?_)
          · -- then_t64
            refine JC.rs ?_
            refine Seq.p rfl Ev.assign ?_
            refine Seq.p rfl Ev.assign ?_
            refine Seq.nil ?_
            refine JC.ret ?_
            -- return 4
            show retQ _ _ _ _ _ _ _ _
            refine ret2 (H' := [bytesC (.slice none 0 0) []]) (hp := (by repeat (first | exact Part.nil _ | refine Part.at (by repeat (first | exact At.z | apply At.s)) ?_))) (hpost := ?_)
            rw [encF_long h1 h2 h3 (by rw [← hline]; omega)] at hef
            cases hef
            exact ⟨none, 0, rfl, rfl⟩
          · -- else_t64
            refine JC.skip ?_
            refine JC.quiet mixed (by kernel_rfl) ?_
            refine Qui.p rfl Ev.move ?_
            refine Qui.p rfl Ev.move ?_
            refine Qui.p rfl Ev.move ?_
            refine Qui.p rfl (Ev.iaN sl.sl_api_Tag (hr := hr.r)) ?_
            refine Qui.p rfl (Ev.fa fd.api_Tag_0) ?_
            refine Qui.p rfl (Ev.ldE sc.int (hr := hr.r)) ?_
            refine Qui.p rfl Ev.move ?_
            refine Qui.p rfl Ev.move ?_
            refine Qui.p rfl (Ev.iaN sl.sl_api_Tag (hr := hr.r)) ?_
            refine Qui.p rfl (Ev.fa fd.api_Tag_1) ?_
            refine Qui.p rfl (Ev.ldE sc.string (hr := hr.r)) ?_
            refine Qui.call rfl (fun w hw => hspec _) ?_
            refine Qui.p rfl Ev.addStr ?_
            refine Qui.p rfl Ev.assign ?_
            refine Qui.nil ?_
            refine JC.reg ?_
            refine Seq.p rfl Ev.move ?_
            refine Seq.p rfl (by first | exact Ev.inc | exact Ev.add) ?_
            refine Seq.p rfl Ev.assign ?_
            refine Seq.nil ?_
            exact ⟨i + 1, _, Part.refl _, ⟨m ++ fl, Has.mk (by repeat (first | refine Off.upd ?_ rfl | exact Off.mix | refine Off.mix2 ?_ rfl | exact Off.refl)) (allLook_cons (by rw [strOf_app]; exact (by repeat (first | exact Look.here | apply Look.there (hne := rfl) | exact Look.const | apply Look.mix rfl | exact Look.arg0 | apply Look.args | exact Look.func))) (allLook_cons (by repeat (first | exact Look.here | apply Look.there (hne := rfl) | exact Look.const | apply Look.mix rfl | exact Look.arg0 | apply Look.args | exact Look.func)) allLook_nil)), rfl, by omega, hbs.symm⟩, by omega⟩
        · -- else_t52
          obtain rfl : i = xs.length := by omega
          obtain rfl : m = body := by rw [hm, hbody]; exact bodyTo_all kind xs
          have hms : (strOf m).size = m.length := strOf_size m
          refine JC.exit ?_ -- 2
          refine JC.rs ?_
          refine Seq.callP (v := .string (strOf f8)) rfl (fun w' hw => hs8 w') ?_
          refine Seq.p rfl Ev.move ?_
          refine Seq.p rfl (Ev.lenStr st.string) ?_
          rw [hms]
          refine Seq.p rfl (Ev.convU64 it.int it.uint64) ?_
          refine Seq.callP rfl (fun w hw => refDecimal (by omega)) ?_
          refine Seq.callP (v := .string (strOf f9)) rfl (fun w' hw => hs9 w') ?_
          refine Seq.p rfl (Ev.addStr (h := by rw [strOf_size, strOf_size, h8, h9]; omega)) ?_
          refine Seq.p rfl Ev.move ?_
          refine Seq.p rfl (Ev.addStr (h := by rw [ByteArray.size_append, strOf_size, strOf_size, strOf_size, h8, h9]; omega)) ?_
          rw [hfe]
          refine Seq.p rfl Ev.assign ?_
          refine Seq.nil ?_
          refine JC.rs ?_
          refine Seq.p rfl Ev.move ?_
          refine Seq.p rfl Ev.move ?_
          refine Seq.strBytes (hs := st.string) (hd := sl.sl_uint8) (he := it.uint8) (hsz := by omega) (k := ?_); intro b89 c89
          rw [hfss, hfbb]
          refine Seq.callP rfl (fun w hw => refSum (RAt.up (RAt.own (enc := byteEnc) (xs := front)) hw) hfB) ?_
          refine Seq.callP rfl (fun w hw => refThree hsm3) ?_
          refine Seq.callP (v := .string (strOf la)) rfl (fun w' hw => hs10 w') ?_
          refine Seq.p rfl (Ev.addStr (h := by rw [hfss, strOf_size, hl7]; omega)) ?_
          rw [hfla]
          refine Seq.p rfl Ev.assign ?_
          refine Seq.nil ?_
          refine JC.seq ?_
          refine JC.rs ?_
          refine Seq.p rfl Ev.move ?_
          refine Seq.p rfl (Ev.lenStr st.string) ?_
          refine Seq.p rfl Ev.gt ?_
          refine Seq.nil ?_
          first | refine JC.c (ht := fun c96 => ?_) (hf := fun c96 => ?_) | refine JC.cb (ht := fun c96 => ?_) (hf := fun c96 => ?_)
          · -- then_t96
            refine JC.rs ?_
            refine Seq.p rfl Ev.assign ?_
            refine Seq.p rfl Ev.assign ?_
            refine Seq.nil ?_
            refine JC.ret ?_
            -- return 5
            show retQ _ _ _ _ _ _ _ _
            refine ret2 (H' := [bytesC (.slice none 0 0) []]) (hp := (by repeat (first | exact Part.nil _ | refine Part.at (by repeat (first | exact At.z | apply At.s)) ?_))) (hpost := ?_)
            rw [encF_long h1 h2 h3 (by rw [← hline]; omega)] at hef
            cases hef
            exact ⟨none, 0, rfl, rfl⟩
          · -- else_t96
            refine JC.skip ?_
            refine JC.rs ?_
            refine Seq.p rfl Ev.move ?_
            refine Seq.strBytes (hs := st.string) (hd := sl.sl_uint8) (he := it.uint8) (hsz := by omega) (k := ?_); intro b98 c98
            rw [hlss, hlbb]
            refine Seq.p rfl Ev.assign ?_
            refine Seq.p rfl Ev.assign ?_
            refine Seq.nil ?_
            refine JC.ret ?_
            -- return 6
            show retQ _ _ _ _ _ _ _ _
            refine ret2 (H' := [bytesC (.slice (some ⟨b98, 0, none⟩) line.length c98) line]) (hp := (by repeat (first | exact Part.nil _ | refine Part.at (by repeat (first | exact At.z | apply At.s)) ?_))) (hpost := ?_)
            rw [encF_line h1 h2 h3 (by rw [← hline]; omega), ← hline] at hef
            cases hef
            exact ⟨_, c98, rfl, rfl⟩
end Go.Rx
/- Fields as a line has them; the program's Line. -/
namespace Go.Rx
open Go Go.RowKit Go.Lib Go.Proofs.YthpejgmkiomfhaaDoor
set_option linter.unusedVariables false
set_option linter.unusedSimpArgs false
def tgOf (f : Fld) : Tg := ⟨f.tag, decS f.num.toNat⟩
def Fld.fine (f : Fld) : Prop := 0 ≤ f.num ∧ f.num ≤ 18446744073709551615
set_option maxHeartbeats 2000000 in
set_option maxRecDepth 100000 in
theorem msgTagged {w : World} {v : Value} {fs : List Fld} (hs : RSl Fld.enc 3 w [] v fs) (hf : ∀ f ∈ fs, f.fine) (h8 : fs.length ≤ 64) (hL : LaidT w) :
    Spec Go.Proofs.Tryd.prog 19 #[v] w [] (fun u N => ∃ A c, u = .slice A (fs.map tgOf).length c ∧ N = [tagsC (.slice A (fs.map tgOf).length c) (fs.map tgOf)]) := by
  refine Spec.enter (fn := Go.Proofs.Tryd.f19) (n := 23) [v] Go.Proofs.Tryd.func19 (by kernel_rfl) rfl Go.Proofs.Tryd.ntmps19 Go.Proofs.Tryd.results19 rfl (Own.nil _) ?_
  refine JC.re (fun w h => h.nilOwn 68 2) ?_
  refine JC.rs ?_
  refine Seq.p rfl Ev.assign ?_
  refine Seq.nil ?_
  refine JC.rs ?_
  refine Seq.p rfl Ev.assign ?_
  refine Seq.nil ?_
  refine JC.seq ?_
  refine JC.rs ?_
  refine Seq.p rfl Ev.move ?_
  refine Seq.p rfl (Ev.lenSl sl.sl_message_field (hr := hs.r)) ?_
  refine Seq.p rfl Ev.move ?_
  refine Seq.nil ?_
  refine JC.blk ?_
  refine JC.loop (α := Nat) (I := fun i e1 H1 => ∃ A c xs, Has [3, 5, 8, 9, 10, 11, 12, 13, 14, 15, 16, 17, 18, 19, 20, 21] [(3, .slice A xs.length c), (8, .int .i64 (i : Int))] _ e1 ∧ H1 = [tagsC (.slice A xs.length c) xs] ∧ i ≤ fs.length ∧ xs = (fs.take i).map tgOf) (μ := fun i => fs.length - i) 0 ⟨none, 0, [], Has.mk Off.refl (allLook_cons (by repeat (first | exact Look.here | apply Look.there (hne := rfl) | exact Look.const | apply Look.mix rfl | exact Look.arg0 | apply Look.args | exact Look.func)) (allLook_cons (by repeat (first | exact Look.here | apply Look.there (hne := rfl) | exact Look.const | apply Look.mix rfl | exact Look.arg0 | apply Look.args | exact Look.func)) allLook_nil)), rfl, by omega, rfl⟩ ?_
  rintro i _ _ ⟨A, c, xs, ⟨u, rfl⟩, rfl, hi, hx⟩; dsimp only [setL]
  refine JC.rs ?_
  refine Seq.p rfl Ev.lt ?_
  refine Seq.nil ?_
  refine JC.seq ?_
  first | refine JC.c (ht := fun c9 => ?_) (hf := fun c9 => ?_) | refine JC.cb (ht := fun c9 => ?_) (hf := fun c9 => ?_)
  · -- then_t9
    have hi2 : i < fs.length := by omega
    have hfi := hf _ (get_memS hi2)
    unfold Fld.fine at hfi
    have hxl : xs.length = i := by rw [hx, List.length_map, List.length_take]; omega
    have hxs : xs ++ [tgOf fs[i]!] = (fs.take (i + 1)).map tgOf := by rw [hx, List.take_succ_eq_append_getElem hi2, List.map_append, getElem!_pos fs i hi2]; rfl
    have hdec : ∀ {w' : World} {H : List Chunk}, Upd w w' [] H → Spec Go.Proofs.Tryd.prog 28 #[.int .u64 (fs[i]!).num] w' [] (fun u _ => u = .string (decS (fs[i]!).num.toNat)) := fun hw => by
      have h := textDecimal (u := (fs[i]!).num.toNat) (by omega) (hL.upd hw)
      rw [show (((fs[i]!).num.toNat : Nat) : Int) = (fs[i]!).num by omega] at h
      exact h
    refine JC.skip ?_
    refine JC.seq ?_
    refine JC.blk ?_
    refine JC.rs ?_
    refine Seq.p rfl (Ev.iaN sl.sl_message_field (hr := hs.r)) ?_
    refine Seq.p rfl (Ev.ldEA ag.message_field (hr := hs.r)) ?_
    refine Seq.alloc (cs := [_, _, _]) (hz := z.message_field) (k := ?_); intro b5
    refine Seq.storeN [_, _, _] sz.message_field (k := ?_)
    refine Seq.nil ?_
    refine JC.anyE 1 mixed ?_
    refine Any.p 0 rfl (by kernel_rfl) (by kernel_rfl) (by kernel_rfl) rfl Ev.move ?_
    refine Any.p 1 rfl (by kernel_rfl) (by kernel_rfl) (by kernel_rfl) rfl (Ev.faB fd.message_field_0) ?_
    refine Any.p 2 rfl (by kernel_rfl) (by kernel_rfl) (by kernel_rfl) rfl (Ev.ldB sc.int) ?_
    refine Any.p 3 rfl (by kernel_rfl) (by kernel_rfl) (by kernel_rfl) rfl (Ev.faB fd.message_field_1) ?_
    refine Any.p 4 rfl (by kernel_rfl) (by kernel_rfl) (by kernel_rfl) rfl (Ev.ldB sc.uint64) ?_
    refine Any.call 5 rfl (by kernel_rfl) (by kernel_rfl) (by kernel_rfl) rfl (fun w hw => hdec hw) ?_
    refine Any.p 6 rfl (by kernel_rfl) (by kernel_rfl) (by kernel_rfl) rfl (Ev.buildN [_, _] pl.api_Tag z.api_Tag) ?_
    refine Any.one 7 rfl (by kernel_rfl) ?_
    refine Seq.buildSlN [_, _] (hsl := sl.sl_api_Tag) (hz := z.api_Tag) (k := ?_); intro b19
    refine Seq.nil ⟨(by repeat (first | exact Part.refl _ | exact Part.nil _ | apply Part.here | apply Part.skip)), ?_⟩
    refine Any.one 8 rfl (by kernel_rfl) ?_
    refine Seq.append (hsl := sl.sl_api_Tag) (he := el.api_Tag) (hsrc := (fun w' hw => Src.box (hl := by rfl) (hc := fun q u hu => hu) sl.sl_api_Tag At.z hw)) (k := ?_); intro A20 c20
    refine Seq.nil ⟨(by repeat (first | exact Part.refl _ | exact Part.nil _ | apply Part.here | apply Part.skip)), ?_⟩
    refine Any.p 9 rfl (by kernel_rfl) (by kernel_rfl) (by kernel_rfl) rfl Ev.assign ?_
    refine Any.done (by kernel_rfl) ?_
    refine JC.reg ?_
    refine Seq.p rfl (by first | exact Ev.inc | exact Ev.add) ?_
    refine Seq.p rfl Ev.move ?_
    refine Seq.nil ?_
    have hst : tagsC (.slice A20 (xs ++ [tgOf fs[i]!]).length c20) (xs ++ [tgOf fs[i]!]) = .own 68 2 (.slice A20 (xs.length + 1) c20) (xs.length + 1) (xs.flatMap Tg.enc ++ [.int .i64 (fs[i]!).tag, .string (decS (fs[i]!).num.toNat)]) := by simp [tagsC, Tg.enc, tgOf, List.flatMap_append]
    refine ⟨i + 1, [_], Part.skip (Part.skip (Part.refl _)), ⟨A20, c20, xs ++ [tgOf fs[i]!], Has.mk (by repeat (first | refine Off.upd ?_ rfl | exact Off.mix | refine Off.mix2 ?_ rfl | exact Off.refl)) (allLook_cons (by rw [List.length_append]; exact (by repeat (first | exact Look.here | apply Look.there (hne := rfl) | exact Look.const | apply Look.mix rfl | exact Look.arg0 | apply Look.args | exact Look.func))) (allLook_cons (by repeat (first | exact Look.here | apply Look.there (hne := rfl) | exact Look.const | apply Look.mix rfl | exact Look.arg0 | apply Look.args | exact Look.func)) allLook_nil)), by rw [hst], by omega, hxs⟩, by omega⟩
  · -- else_t9
    obtain rfl : i = fs.length := by omega
    rw [List.take_length] at hx
    subst hx
    refine JC.exit ?_ -- 0
    refine JC.rs ?_
    refine Seq.p rfl Ev.move ?_
    refine Seq.p rfl Ev.assign ?_
    refine Seq.nil ?_
    refine JC.ret ?_
    -- return 0
    show retQ _ _ _ _ _ _ _ _
    refine ret1 (hp := Part.refl _) (hpost := ?_)
    exact ⟨A, c, rfl, rfl⟩
theorem flat_small {α : Type} (f : α → List Int) (k : Nat) : ∀ (xs : List α), (∀ x ∈ xs, (f x).length ≤ k) → (xs.flatMap f).length ≤ k * xs.length
  | [], _ => by simp
  | x :: r, h => by
    have h1 := h x (List.mem_cons_self ..)
    have h2 := flat_small f k r (fun y hy => h y (List.mem_cons_of_mem _ hy))
    rw [List.flatMap_cons, List.length_append, List.length_cons, Nat.mul_add]
    omega
/-- Tags with small values: the body is short. -/
theorem body_short {kind : ByteArray} {xs : List Tg} (hk : kind.size ≤ 2) (hl : xs.length ≤ 64) (hx : ∀ t ∈ xs, t.tag.toNat < 10000 ∧ t.value.size ≤ 20) : (bodyL kind xs).length ≤ 1099511627776 := by
  unfold bodyL
  rw [List.length_append, field_len]
  have h1 := decL_four (n := 35) (by decide)
  have h2 := flat_small (fun t : Tg => fieldL t.tag.toNat t.value) 26 xs (fun t ht => by
    obtain ⟨a, b⟩ := hx t ht
    have := decL_four a
    rw [field_len]
    omega)
  omega
theorem tgOf_fine {f : Fld} (h : f.fine) : (tgOf f).value.size ≤ 20 := by
  unfold Fld.fine at h
  have := decS_facts (n := f.num.toNat) (by omega)
  exact this.2.1
theorem fieldsF_fine {i : Input} (hw : i.Wf) {k : Int} {s : ByteArray} {fs : List Fld} (h : fieldsF i = some (k, s, fs)) : s.size ≤ 2 ∧ ∀ f ∈ fs, f.fine ∧ f.tag.toNat < 10000 := by
  have hup : ∀ t n m : Int, t.toNat < 10000 → (upToF t n m).fine ∧ (upToF t n m).tag.toNat < 10000 := fun t n m ht => ⟨⟨by show 0 ≤ n % _; omega, by show n % _ ≤ _; omega⟩, ht⟩
  have hwh : ∀ t n : Int, t.toNat < 10000 → 0 ≤ n ∧ n ≤ 18446744073709551615 → (wholeF t n).fine ∧ (wholeF t n).tag.toNat < 10000 := fun t n ht hn => ⟨hn, ht⟩
  unfold fieldsF at h
  repeat (first | (split at h) | (simp only [Option.some.injEq, Prod.mk.injEq] at h; obtain ⟨_, rfl, rfl⟩ := h; refine ⟨by show _ ≤ 2; decide, fun f hf => ?_⟩; simp only [List.mem_cons, List.not_mem_nil, or_false] at hf; (repeat (first | (rcases hf with rfl | hf; · first | exact hup _ _ _ (by decide) | exact hwh _ _ (by decide) (by have := hw.id; have := hw.target; have := hw.member; have := hw.qty; have := hw.peak; omega)) | (subst hf; first | exact hup _ _ _ (by decide) | exact hwh _ _ (by decide) (by have := hw.id; have := hw.target; have := hw.member; have := hw.qty; have := hw.peak; omega))))) | cases h)
def lineF (i : Input) : Int × List Int :=
  if toldE i = 0 then match fieldsF i with | some (_, s, fs) => encF s (fs.map tgOf) | none => (0, [])
  else (toldE i, [])
end Go.Rx
/- The program's Line. -/
namespace Go.Rx
open Go Go.RowKit Go.Lib Go.Proofs.YthpejgmkiomfhaaDoor
set_option linter.unusedVariables false
set_option linter.unusedSimpArgs false
def LinePost (l : Int × List Int) (u : Value) (H' : List Chunk) : Prop := ∃ A c, u = .tuple #[.slice A l.2.length c, .int .i64 l.1] ∧ H' = [bytesC (.slice A l.2.length c) l.2]
theorem lineF_err {i : Input} (h : ¬ toldE i = 0) : lineF i = (toldE i, []) := if_neg h
theorem lineF_ok {i : Input} {k : Int} {s : ByteArray} {fs : List Fld} (h : toldE i = 0) (hF : fieldsF i = some (k, s, fs)) : lineF i = encF s (fs.map tgOf) := by
  unfold lineF
  rw [if_pos h, hF]
set_option maxHeartbeats 2000000 in
set_option maxRecDepth 100000 in
theorem msgLine0 {w : World} {i : Input} (hE : ¬ toldE i = 0) : Spec Go.Proofs.Tryd.prog 6 #[.agg i.enc.toArray] w [] (LinePost (lineF i)) := by
  refine Spec.enter (fn := Go.Proofs.Tryd.f6) (n := 26) [.agg i.enc.toArray] Go.Proofs.Tryd.func6 (by kernel_rfl) rfl Go.Proofs.Tryd.ntmps6 Go.Proofs.Tryd.results6 rfl (Own.nil _) ?_
  refine JC.re (fun w h => h.nilOwn 5 1) ?_
  refine JC.rs ?_
  refine Seq.box (cs := [_, _, _, _, _, _, _, _, _, _, _]) (k := ?_); intro b1
  refine Seq.p rfl Ev.assign ?_
  refine Seq.p rfl Ev.assign ?_
  refine Seq.nil ?_
  refine JC.rs ?_
  refine Seq.p rfl (Ev.ldBA ag.api_Input) ?_
  refine Seq.call rfl (fun w hw => msgTold) (F := _) (by exact List.Perm.refl _) ?_
  intro u N hN
  rw [ToldPost, if_neg hE] at hN
  subst hN
  refine Seq.re (fun w h => h.part ⟨N, List.perm_append_comm⟩) ?_
  refine Seq.p rfl Ev.move ?_
  refine Seq.p rfl Ev.extract ?_
  refine Seq.p rfl Ev.extract ?_
  refine Seq.p rfl Ev.extract ?_
  refine Seq.p rfl Ev.extract ?_
  refine Seq.p rfl Ev.extract ?_
  refine Seq.p rfl Ev.assign ?_
  refine Seq.p rfl Ev.assign ?_
  refine Seq.p rfl Ev.assign ?_
  refine Seq.p rfl Ev.assign ?_
  refine Seq.p rfl Ev.assign ?_
  refine Seq.nil ?_
  refine JC.seq ?_
  refine JC.rs ?_
  refine Seq.p rfl Ev.move ?_
  refine Seq.p rfl Ev.ne ?_
  refine Seq.nil ?_
  first | refine JC.c (ht := fun c18 => ?_) (hf := fun c18 => ?_) | refine JC.cb (ht := fun c18 => ?_) (hf := fun c18 => ?_)
  · -- then_t18
    refine JC.rs ?_
    refine Seq.p rfl Ev.move ?_
    refine Seq.p rfl Ev.assign ?_
    refine Seq.p rfl Ev.assign ?_
    refine Seq.nil ?_
    refine JC.ret ?_
    -- return 0
    show retQ _ _ _ _ _ _ _ _
    refine ret2 (H' := [bytesC (.slice none 0 0) []]) (hp := (by repeat (first | exact Part.nil _ | refine Part.at (by repeat (first | exact At.z | apply At.s)) ?_))) (hpost := ?_)
    rw [lineF_err hE]
    exact ⟨none, 0, rfl, rfl⟩
  · -- else_t18
    exact absurd hE c18
set_option maxHeartbeats 2000000 in
set_option maxRecDepth 100000 in
theorem msgLine1 {w : World} {i : Input} (hw0 : i.Wf) (hE : toldE i = 0) (hL : LaidT w) : Spec Go.Proofs.Tryd.prog 6 #[.agg i.enc.toArray] w [] (LinePost (lineF i)) := by
  refine Spec.enter (fn := Go.Proofs.Tryd.f6) (n := 26) [.agg i.enc.toArray] Go.Proofs.Tryd.func6 (by kernel_rfl) rfl Go.Proofs.Tryd.ntmps6 Go.Proofs.Tryd.results6 rfl (Own.nil _) ?_
  refine JC.rs ?_
  refine Seq.box (cs := [_, _, _, _, _, _, _, _, _, _, _]) (k := ?_); intro b1
  refine Seq.p rfl Ev.assign ?_
  refine Seq.p rfl Ev.assign ?_
  refine Seq.nil ?_
  refine JC.rs ?_
  refine Seq.p rfl (Ev.ldBA ag.api_Input) ?_
  refine Seq.call rfl (fun w hw => msgTold) (F := _) (by exact List.Perm.refl _) ?_
  intro u N hN
  rw [ToldPost, if_pos hE] at hN
  obtain ⟨k, s, fs, b1, b3, hF, rfl, rfl⟩ := hN
  have hfl := lineF_ok hE hF
  obtain ⟨hs2, hfi⟩ := fieldsF_fine hw0 hF
  have h7 := fieldsF_small hF
  obtain ⟨xs, hxs⟩ : ∃ x, x = fs.map tgOf := ⟨_, rfl⟩
  have hxl : xs.length = fs.length := by rw [hxs, List.length_map]
  have hxf : ∀ t ∈ xs, t.tag.toNat < 10000 ∧ t.value.size ≤ 20 := fun t ht => by
    rw [hxs] at ht
    obtain ⟨f, hf, rfl⟩ := List.mem_map.1 ht
    exact ⟨(hfi f hf).2, tgOf_fine (hfi f hf).1⟩
  have hbd := body_short (kind := s) hs2 (by omega) hxf
  rw [← hxs] at hfl
  rw [hfl]
  obtain ⟨ec, hec⟩ : ∃ x, x = encF s xs := ⟨_, rfl⟩
  rw [← hec]
  refine Seq.p rfl Ev.move ?_
  refine Seq.p rfl Ev.extract ?_
  refine Seq.p rfl Ev.extract ?_
  refine Seq.p rfl Ev.extract ?_
  refine Seq.p rfl Ev.extract ?_
  refine Seq.p rfl Ev.extract ?_
  refine Seq.p rfl Ev.assign ?_
  refine Seq.p rfl Ev.assign ?_
  refine Seq.p rfl Ev.assign ?_
  refine Seq.p rfl Ev.assign ?_
  refine Seq.p rfl Ev.assign ?_
  refine Seq.nil ?_
  refine JC.seq ?_
  refine JC.rs ?_
  refine Seq.p rfl Ev.move ?_
  refine Seq.p rfl Ev.ne ?_
  refine Seq.nil ?_
  first | refine JC.c (ht := fun c18 => ?_) (hf := fun c18 => ?_) | refine JC.cb (ht := fun c18 => ?_) (hf := fun c18 => ?_)
  · -- then_t18
    exact absurd rfl c18
  · -- else_t18
    refine JC.skip ?_
    refine JC.rs ?_
    refine Seq.p rfl Ev.move ?_
    refine Seq.p rfl Ev.move ?_
    refine Seq.call rfl (fun w' hw => by have h := msgTagged (w := w') (fs := fs) (RAt.up (RAt.box (enc := Fld.enc) (sz := 3) (hs := by omega)) hw) (fun f hf => (hfi f hf).1) (by omega) (hL.upd hw); rw [← hxs] at h; exact h) (F := _) (by exact List.Perm.refl _) ?_
    rintro _ _ ⟨A22, c22, rfl, rfl⟩
    simp only [List.cons_append, List.nil_append]
    refine Seq.call rfl (fun w' hw => by have h := textEncode (w := w') (kind := s) (xs := xs) (RAt.up (RAt.own (enc := Tg.enc) (xs := xs) (hs := by omega)) hw) (by omega) (fun t ht => by have := (hxf t ht).2; omega) hbd (hL.upd hw); rw [← hec] at h; exact h) (F := _) (by exact List.Perm.refl _) ?_
    rintro _ _ ⟨A23, c23, rfl, rfl⟩
    simp only [List.cons_append, List.nil_append]
    refine Seq.p rfl Ev.extract ?_
    refine Seq.p rfl Ev.extract ?_
    refine Seq.p rfl Ev.assign ?_
    refine Seq.p rfl Ev.assign ?_
    refine Seq.nil ?_
    refine JC.ret ?_
    -- return 0
    show retQ _ _ _ _ _ _ _ _
    refine ret2 (H' := [bytesC (.slice A23 ec.2.length c23) ec.2]) (hp := (by repeat (first | exact Part.nil _ | refine Part.at (by repeat (first | exact At.z | apply At.s)) ?_))) (hpost := ?_)
    exact ⟨A23, c23, rfl, rfl⟩
theorem msgLine {w : World} {i : Input} (hw0 : i.Wf) (hL : LaidT w) : Spec Go.Proofs.Tryd.prog 6 #[.agg i.enc.toArray] w [] (LinePost (lineF i)) := by
  by_cases hE : toldE i = 0
  · exact msgLine1 hw0 hE hL
  · exact msgLine0 hE
end Go.Rx
/- The document's Line: plain. -/
namespace Go.Rx
open Go Go.RowKit Go.Lib Go.Proofs.YthpejgmkiomfhaaDoor
set_option linter.unusedVariables false
set_option linter.unusedSimpArgs false
theorem toldE_eq {i : Input} (hw : i.Wf) : toldE i = refE i := by
  have h := congrArg Prod.snd (pack_eq hw)
  unfold packF refPackF at h
  by_cases h1 : toldE i = 0
  · by_cases h2 : refE i = 0
    · rw [h1, h2]
    · rw [if_pos h1, if_neg h2] at h
      exact absurd h.symm h2
  · by_cases h2 : refE i = 0
    · rw [if_neg h1, if_pos h2] at h
      exact absurd h h1
    · rw [if_neg h1, if_neg h2] at h
      exact h
theorem inValF_range {i : Input} (hw : i.Wf) (t : Int) : 0 ≤ (inValF i t).1 ∧ (inValF i t).1 ≤ 18446744073709551615 := by
  unfold inValF
  (repeat' split) <;> first | exact hw.id | exact hw.target | exact hw.qty | exact hw.peak | (dsimp only; omega)
def rfTg (i : Input) (f : RF) : Tg := ⟨f.tag, decS (inValF i f.tag).1.toNat⟩
def letterF (k : Int) : ByteArray := if k = 1 then ⟨#[68]⟩ else if k = 2 then ⟨#[70]⟩ else if k = 3 then ⟨#[71]⟩ else if k = 4 then ⟨#[85, 69]⟩ else ⟨#[]⟩
theorem valsGo_vals {i : Input} : ∀ (l : List RF) (s s' : Input × List Int), valsGo i l s = some s' → s'.2 = s.2 ++ l.map fun f => (inValF i f.tag).1
  | [], s, s', h => by
    simp only [valsGo, Option.some.injEq] at h
    subst h
    simp
  | f :: r, s, s', h => by
    simp only [valsGo] at h
    cases hs : stepF i f s with
    | none => rw [hs] at h; cases h
    | some q =>
      rw [hs] at h
      have h2 := valsGo_vals r q s' h
      unfold stepF at hs
      split at hs
      · cases hs
      · split at hs
        · cases hs
        · simp only [Option.some.injEq] at hs
          subst hs
          rw [h2]
          simp
/-- What is told, told alike. -/
theorem told_same {i : Input} {k : Int} {s : ByteArray} {fs : List Fld} (hF : fieldsF i = some (k, s, fs)) : s = letterF (nameF i) ∧ fs.map tgOf = (refFieldsF (nameF i)).map (rfTg i) := by
  unfold fieldsF at hF
  split at hF
  · rename_i h
    simp only [Option.some.injEq, Prod.mk.injEq] at hF
    obtain ⟨_, rfl, rfl⟩ := hF
    have hn : nameF i = 4 := if_pos h
    rw [hn]
    exact ⟨rfl, rfl⟩
  · rename_i h
    split at hF
    · cases hF
    · rename_i h1
      have h1 : i.kind = 1 := by omega
      split at hF
      · rename_i h2
        simp only [Option.some.injEq, Prod.mk.injEq] at hF
        obtain ⟨_, rfl, rfl⟩ := hF
        have hn : nameF i = 1 := by unfold nameF; rw [if_neg h, if_pos ⟨h1, by omega, by omega⟩, h2]
        rw [hn]
        exact ⟨rfl, rfl⟩
      · split at hF
        · rename_i h2
          simp only [Option.some.injEq, Prod.mk.injEq] at hF
          obtain ⟨_, rfl, rfl⟩ := hF
          have hn : nameF i = 2 := by unfold nameF; rw [if_neg h, if_pos ⟨h1, by omega, by omega⟩, h2]
          rw [hn]
          exact ⟨rfl, rfl⟩
        · split at hF
          · rename_i h2
            simp only [Option.some.injEq, Prod.mk.injEq] at hF
            obtain ⟨_, rfl, rfl⟩ := hF
            have hn : nameF i = 3 := by unfold nameF; rw [if_neg h, if_pos ⟨h1, by omega, by omega⟩, h2]
            rw [hn]
            exact ⟨rfl, rfl⟩
          · cases hF
theorem toldE_some {i : Input} (h : toldE i = 0) : ∃ k s fs, fieldsF i = some (k, s, fs) := by
  unfold toldE at h
  cases hF : fieldsF i with
  | none => rw [hF] at h; cases h
  | some p => obtain ⟨k, s, fs⟩ := p; exact ⟨k, s, fs, rfl⟩
/-- A line as the document tells it. -/
theorem lineF_ref {i : Input} (hw : i.Wf) : lineF i = if refE i = 0 then encF (letterF (nameF i)) ((refFieldsF (nameF i)).map (rfTg i)) else (refE i, []) := by
  by_cases h : toldE i = 0
  · obtain ⟨k, s, fs, hF⟩ := toldE_some h
    obtain ⟨h1, h2⟩ := told_same hF
    rw [lineF_ok h hF, if_pos (by rw [← toldE_eq hw]; exact h), ← h1, ← h2]
  · rw [lineF_err h, if_neg (by rw [← toldE_eq hw]; exact h), toldE_eq hw]
end Go.Rx
/- The document's Line. -/
namespace Go.Rx
open Go Go.RowKit Go.Lib Go.Proofs.YthpejgmkiomfhaaDoor
set_option linter.unusedVariables false
set_option linter.unusedSimpArgs false
def lettersL : List Value := [.string ⟨#[]⟩, .string ⟨#[68]⟩, .string ⟨#[70]⟩, .string ⟨#[71]⟩, .string ⟨#[85, 69]⟩]
theorem letters_at {k : Int} (h : 1 ≤ k ∧ k ≤ 4) : lettersL[k.toNat * 1]? = some (.string (letterF k)) := by
  have : k = 1 ∨ k = 2 ∨ k = 3 ∨ k = 4 := by omega
  rcases this with rfl | rfl | rfl | rfl <;> rfl
theorem letter_size (k : Int) : (letterF k).size ≤ 2 := by
  unfold letterF
  (repeat' split) <;> decide
theorem refLetters {w : World} : Spec Go.Proofs.Tryd.prog 25 #[] w [] (fun u _ => u = .agg lettersL.toArray) := by
  refine Spec.enter (fn := Go.Proofs.Tryd.f25) (n := 2) [] Go.Proofs.Tryd.func25 (by kernel_rfl) rfl Go.Proofs.Tryd.ntmps25 Go.Proofs.Tryd.results25 rfl (Own.nil _) ?_
  refine JC.rs ?_
  refine Seq.alloc (cs := [_, _, _, _, _]) (hz := z.a5_string) (k := ?_); intro b0
  refine Seq.nil ?_
  refine JC.rs ?_
  refine Seq.p rfl (Ev.buildArrN [_, _, _, _, _] ar.a5_string z.a5_string) ?_
  refine Seq.storeN [_, _, _, _, _] sz.a5_string (k := ?_)
  refine Seq.nil ?_
  refine JC.ret ?_
  -- return 0
  show retQ _ _ _ _ _ _ _ _
  refine retB1 ag.a5_string (hp := Part.nil _) (hpost := ?_)
  rfl
theorem row_tags {k : Int} : ∀ f ∈ refFieldsF k, f.tag.toNat < 10000 := by
  intro f hf
  unfold refFieldsF at hf
  (repeat' split at hf) <;> simp only [List.mem_cons, List.not_mem_nil, or_false] at hf <;> (try (rcases hf with rfl | rfl | rfl | rfl | rfl | rfl | rfl)) <;> (try (rcases hf with rfl | rfl | rfl | rfl | rfl)) <;> (try subst hf) <;> first | decide | (show Int.toNat _ < _; decide) | cases hf
set_option maxHeartbeats 2000000 in
set_option maxRecDepth 100000 in
theorem refLine0 {w : World} {i : Input} (hw0 : i.Wf) (hE : ¬ refE i = 0) : Spec Go.Proofs.Tryd.prog 7 #[.agg i.enc.toArray] w [] (LinePost (lineF i)) := by
  have hl := lineF_ref hw0
  rw [if_neg hE] at hl
  rw [hl]
  refine Spec.enter (fn := Go.Proofs.Tryd.f7) (n := 48) [.agg i.enc.toArray] Go.Proofs.Tryd.func7 (by kernel_rfl) rfl Go.Proofs.Tryd.ntmps7 Go.Proofs.Tryd.results7 rfl (Own.nil _) ?_
  refine JC.re (fun w h => h.nilOwn 5 1) ?_
  refine JC.rs ?_
  refine Seq.box (cs := [_, _, _, _, _, _, _, _, _, _, _]) (k := ?_); intro b1
  refine Seq.p rfl Ev.assign ?_
  refine Seq.p rfl Ev.assign ?_
  refine Seq.nil ?_
  refine JC.rs ?_
  refine Seq.p rfl (Ev.ldBA ag.api_Input) ?_
  refine Seq.call rfl (fun w hw => refValues) (F := _) (by exact List.Perm.refl _) ?_
  intro u N hN
  rw [ValuesPost, if_neg hE] at hN
  subst hN
  refine Seq.re (fun w h => h.part ⟨N, List.perm_append_comm⟩) ?_
  refine Seq.p rfl Ev.move ?_
  refine Seq.p rfl Ev.extract ?_
  refine Seq.p rfl Ev.extract ?_
  refine Seq.p rfl Ev.assign ?_
  refine Seq.p rfl Ev.assign ?_
  refine Seq.nil ?_
  refine JC.seq ?_
  refine JC.rs ?_
  refine Seq.p rfl Ev.move ?_
  refine Seq.p rfl Ev.ne ?_
  refine Seq.nil ?_
  first | refine JC.c (ht := fun c15 => ?_) (hf := fun c15 => ?_) | refine JC.cb (ht := fun c15 => ?_) (hf := fun c15 => ?_)
  · -- then_t15
    refine JC.rs ?_
    refine Seq.p rfl Ev.move ?_
    refine Seq.p rfl Ev.assign ?_
    refine Seq.p rfl Ev.assign ?_
    refine Seq.nil ?_
    refine JC.ret ?_
    -- return 0
    show retQ _ _ _ _ _ _ _ _
    refine ret2 (H' := [bytesC (.slice none 0 0) []]) (hp := (by repeat (first | exact Part.nil _ | refine Part.at (by repeat (first | exact At.z | apply At.s)) ?_))) (hpost := ?_)
    exact ⟨none, 0, rfl, rfl⟩
  · -- else_t15
    exact absurd hE c15
set_option maxHeartbeats 2000000 in
set_option maxRecDepth 100000 in
theorem refLine1 {w : World} {i : Input} (hw0 : i.Wf) (hE : refE i = 0) : Spec Go.Proofs.Tryd.prog 7 #[.agg i.enc.toArray] w [] (LinePost (lineF i)) := by
  have hl := lineF_ref hw0
  rw [if_pos hE] at hl
  rw [hl]
  have hsm := refFieldsF_small (nameF i)
  have htg := row_tags (k := nameF i)
  have hlz := letter_size (nameF i)
  obtain ⟨l, hl0⟩ : ∃ l, l = refFieldsF (nameF i) := ⟨_, rfl⟩
  obtain ⟨kd, hkd⟩ : ∃ s, s = letterF (nameF i) := ⟨_, rfl⟩
  rw [← hl0, ← hkd]
  rw [← hl0] at hsm htg
  rw [← hkd] at hlz
  have hbd : (bodyL kd (l.map (rfTg i))).length ≤ 1099511627776 := body_short hlz (by rw [List.length_map]; omega) (fun t ht => by
    obtain ⟨f, hf, rfl⟩ := List.mem_map.1 ht
    have hr := inValF_range hw0 f.tag
    exact ⟨htg f hf, (decS_facts (n := (inValF i f.tag).1.toNat) (by omega)).2.1⟩)
  have htz : ∀ t ∈ l.map (rfTg i), t.value.size ≤ 70368744177664 := fun t ht => by
    obtain ⟨f, hf, rfl⟩ := List.mem_map.1 ht
    have hr := inValF_range hw0 f.tag
    have := (decS_facts (n := (inValF i f.tag).1.toNat) (by omega)).2.1
    show (decS _).size ≤ _
    omega
  obtain ⟨ec, hec⟩ : ∃ x, x = encF kd (l.map (rfTg i)) := ⟨_, rfl⟩
  rw [← hec]
  refine Spec.enter (fn := Go.Proofs.Tryd.f7) (n := 48) [.agg i.enc.toArray] Go.Proofs.Tryd.func7 (by kernel_rfl) rfl Go.Proofs.Tryd.ntmps7 Go.Proofs.Tryd.results7 rfl (Own.nil _) ?_
  refine JC.rs ?_
  refine Seq.box (cs := [_, _, _, _, _, _, _, _, _, _, _]) (k := ?_); intro b1
  refine Seq.p rfl Ev.assign ?_
  refine Seq.p rfl Ev.assign ?_
  refine Seq.nil ?_
  refine JC.rs ?_
  refine Seq.p rfl (Ev.ldBA ag.api_Input) ?_
  refine Seq.call rfl (fun w hw => refValues) (F := _) (by exact List.Perm.refl _) ?_
  intro u N hN
  rw [ValuesPost, if_pos hE] at hN
  obtain ⟨s, A, cc, hn0, hv, rfl, rfl⟩ := hN
  have hls : s.2 = l.map fun f => (inValF i f.tag).1 := by have := valsGo_vals _ _ _ hv; rw [← hl0] at this; simpa using this
  obtain ⟨vs, hvs⟩ : ∃ x, x = s.2 := ⟨_, rfl⟩
  rw [← hvs] at hls
  rw [← hvs]
  have hvl : vs.length = l.length := by rw [hls, List.length_map]
  refine Seq.p rfl Ev.move ?_
  refine Seq.p rfl Ev.extract ?_
  refine Seq.p rfl Ev.extract ?_
  refine Seq.p rfl Ev.assign ?_
  refine Seq.p rfl Ev.assign ?_
  refine Seq.nil ?_
  refine JC.seq ?_
  refine JC.rs ?_
  refine Seq.p rfl Ev.move ?_
  refine Seq.p rfl Ev.ne ?_
  refine Seq.nil ?_
  first | refine JC.c (ht := fun c15 => ?_) (hf := fun c15 => ?_) | refine JC.cb (ht := fun c15 => ?_) (hf := fun c15 => ?_)
  · -- then_t15
    exact absurd rfl c15
  · -- else_t15
    refine JC.skip ?_
    refine JC.rs ?_
    refine Seq.p rfl (Ev.ldBA ag.api_Input) ?_
    refine Seq.callP rfl (fun w hw => refName) ?_
    refine Seq.call rfl (fun w hw => hl0 ▸ refFields (nameF_range i hn0)) (F := _) (by exact List.Perm.refl _) ?_
    rintro _ _ ⟨bl, rfl, rfl⟩
    refine Seq.p rfl Ev.assign ?_
    refine Seq.nil ?_
    refine JC.rs ?_
    refine Seq.p rfl Ev.assign ?_
    refine Seq.re (fun w h => Upd.nilOwn h 68 2) ?_
    refine Seq.nil ?_
    refine JC.seq ?_
    refine JC.rs ?_
    refine Seq.p rfl Ev.assign ?_
    refine Seq.nil ?_
    refine JC.blk ?_
    refine JC.loop (α := Nat) (I := fun k e1 H1 => ∃ A2 c2 xs, Has [7, 8, 20, 21, 22, 23, 24, 25, 26, 27, 28, 29, 30, 31, 32, 33, 34, 35, 36, 37, 38, 39] [(8, .int .i64 (k : Int)), (7, .slice A2 xs.length c2)] _ e1 ∧ H1 = [tagsC (.slice A2 xs.length c2) xs, .box bl 65 (l.flatMap RF.enc), .own 22 1 (.slice A vs.length cc) vs.length (vs.flatMap uenc), .box b1 27 i.enc] ∧ k ≤ l.length ∧ xs = (l.take k).map (rfTg i)) (μ := fun k => l.length - k) 0 ⟨none, 0, [], Has.mk Off.refl (allLook_cons (by repeat (first | exact Look.here | apply Look.there (hne := rfl) | exact Look.const | apply Look.mix rfl | exact Look.arg0 | apply Look.args | exact Look.func)) (allLook_cons (by repeat (first | exact Look.here | apply Look.there (hne := rfl) | exact Look.const | apply Look.mix rfl | exact Look.arg0 | apply Look.args | exact Look.func)) allLook_nil)), rfl, by omega, rfl⟩ ?_
    rintro k _ _ ⟨A2, c2, xs, ⟨ui, rfl⟩, rfl, hk, hx⟩; dsimp only [setL]
    refine JC.seq ?_
    refine JC.rs ?_
    refine Seq.p rfl Ev.move ?_
    refine Seq.p rfl Ev.move ?_
    refine Seq.p rfl (Ev.lenSl sl.sl_bourseref04_field (hr := RAt.box (enc := RF.enc) (sz := 4) (hs := by omega))) ?_
    refine Seq.p rfl Ev.lt ?_
    refine Seq.nil ?_
    first | refine JC.c (ht := fun c23 => ?_) (hf := fun c23 => ?_) | refine JC.cb (ht := fun c23 => ?_) (hf := fun c23 => ?_)
    · -- then_t23
      have hk2 : k < l.length := by omega
      have hvk : vs[k]! = (inValF i (l[k]!).tag).1 := by rw [hls, getElem!_pos _ k (by rw [List.length_map]; exact hk2), List.getElem_map, getElem!_pos l k hk2]
      have hrg := inValF_range hw0 (l[k]!).tag
      rw [← hvk] at hrg
      have hxl : xs.length = k := by rw [hx, List.length_map, List.length_take]; omega
      have hxs : xs ++ [rfTg i l[k]!] = (l.take (k + 1)).map (rfTg i) := by rw [hx, List.take_succ_eq_append_getElem hk2, List.map_append, getElem!_pos l k hk2]; rfl
      have hdec : ∀ w' : World, Spec Go.Proofs.Tryd.prog 23 #[.int .u64 (vs[k]!)] w' [] (fun u _ => u = .string (decS (vs[k]!).toNat)) := fun w' => by
        have h := refDecimal (w := w') (n := (vs[k]!).toNat) (by omega)
        rw [show (((vs[k]!).toNat : Nat) : Int) = vs[k]! by omega] at h
        exact h
      refine JC.skip ?_
      refine JC.seq ?_
      refine JC.blk ?_
      refine JC.anyE 0 mixed ?_
      refine Any.p 0 rfl (by kernel_rfl) (by kernel_rfl) (by kernel_rfl) rfl Ev.move ?_
      refine Any.p 1 rfl (by kernel_rfl) (by kernel_rfl) (by kernel_rfl) rfl Ev.move ?_
      refine Any.p 2 rfl (by kernel_rfl) (by kernel_rfl) (by kernel_rfl) rfl Ev.move ?_
      refine Any.p 3 rfl (by kernel_rfl) (by kernel_rfl) (by kernel_rfl) rfl (Ev.iaN sl.sl_bourseref04_field (hr := RAt.box (enc := RF.enc) (sz := 4) (hs := by omega))) ?_
      refine Any.p 4 rfl (by kernel_rfl) (by kernel_rfl) (by kernel_rfl) rfl (Ev.fa fd.bourseref04_field_0) ?_
      refine Any.p 5 rfl (by kernel_rfl) (by kernel_rfl) (by kernel_rfl) rfl (Ev.ldE sc.int (hr := RAt.box (enc := RF.enc) (sz := 4) (hs := by omega))) ?_
      refine Any.p 6 rfl (by kernel_rfl) (by kernel_rfl) (by kernel_rfl) rfl Ev.move ?_
      refine Any.p 7 rfl (by kernel_rfl) (by kernel_rfl) (by kernel_rfl) rfl Ev.move ?_
      refine Any.p 8 rfl (by kernel_rfl) (by kernel_rfl) (by kernel_rfl) rfl (Ev.iaN sl.sl_uint64 (hr := RAt.own (enc := uenc) (xs := vs) (sz := 1) (hs := by omega))) ?_
      refine Any.p 9 rfl (by kernel_rfl) (by kernel_rfl) (by kernel_rfl) rfl (Ev.ldE1 sc.uint64 (hr := RAt.own (enc := uenc) (xs := vs) (sz := 1) (hs := by omega))) ?_
      refine Any.call 10 rfl (by kernel_rfl) (by kernel_rfl) (by kernel_rfl) rfl (fun w hw => hdec _) ?_
      refine Any.p 11 rfl (by kernel_rfl) (by kernel_rfl) (by kernel_rfl) rfl (Ev.buildN [_, _] pl.api_Tag z.api_Tag) ?_
      refine Any.one 12 rfl (by kernel_rfl) ?_
      refine Seq.buildSlN [_, _] (hsl := sl.sl_api_Tag) (hz := z.api_Tag) (k := ?_); intro b38
      refine Seq.nil ⟨(by repeat (first | exact Part.refl _ | exact Part.nil _ | apply Part.here | apply Part.skip)), ?_⟩
      refine Any.one 13 rfl (by kernel_rfl) ?_
      refine Seq.append (hsl := sl.sl_api_Tag) (he := el.api_Tag) (hsrc := (fun w' hw => Src.box (hl := by rfl) (hc := fun q u hu => hu) sl.sl_api_Tag At.z hw)) (k := ?_); intro A39 c39
      refine Seq.nil ⟨(by repeat (first | exact Part.refl _ | exact Part.nil _ | apply Part.here | apply Part.skip)), ?_⟩
      refine Any.p 14 rfl (by kernel_rfl) (by kernel_rfl) (by kernel_rfl) rfl Ev.assign ?_
      refine Any.done (by kernel_rfl) ?_
      refine JC.reg ?_
      refine Seq.p rfl Ev.move ?_
      refine Seq.p rfl (by first | exact Ev.inc | exact Ev.add) ?_
      refine Seq.p rfl Ev.assign ?_
      refine Seq.nil ?_
      have hst : tagsC (.slice A39 (xs ++ [rfTg i l[k]!]).length c39) (xs ++ [rfTg i l[k]!]) = .own 68 2 (.slice A39 (xs.length + 1) c39) (xs.length + 1) (xs.flatMap Tg.enc ++ [.int .i64 (l[k]!).tag, .string (decS (vs[k]!).toNat)]) := by rw [hvk]; simp [tagsC, Tg.enc, rfTg, List.flatMap_append]
      refine ⟨k + 1, [_, _, _, _], Part.skip (Part.refl _), ⟨A39, c39, xs ++ [rfTg i l[k]!], Has.mk (by repeat (first | refine Off.upd ?_ rfl | exact Off.mix | refine Off.mix2 ?_ rfl | exact Off.refl)) (allLook_cons (by repeat (first | exact Look.here | apply Look.there (hne := rfl) | exact Look.const | apply Look.mix rfl | exact Look.arg0 | apply Look.args | exact Look.func)) (allLook_cons (by rw [List.length_append]; exact (by repeat (first | exact Look.here | apply Look.there (hne := rfl) | exact Look.const | apply Look.mix rfl | exact Look.arg0 | apply Look.args | exact Look.func))) allLook_nil)), by rw [hst], by omega, hxs⟩, by omega⟩
    · -- else_t23
      obtain rfl : k = l.length := by omega
      rw [List.take_length] at hx
      have hnr := nameF_range i hn0
      refine JC.exit ?_ -- 0
      refine JC.as mixed ?_
      refine Any.call 0 rfl (by kernel_rfl) (by kernel_rfl) (by kernel_rfl) rfl (fun w hw => refLetters) ?_
      refine Any.p 1 rfl (by kernel_rfl) (by kernel_rfl) (by kernel_rfl) rfl (Ev.ldBA ag.api_Input) ?_
      refine Any.call 2 rfl (by kernel_rfl) (by kernel_rfl) (by kernel_rfl) rfl (fun w hw => refName) ?_
      refine Any.p 3 rfl (by kernel_rfl) (by kernel_rfl) (by kernel_rfl) rfl (Ev.indexS (v := .string kd) ar.a5_string sc.string (hv := by rw [hkd]; exact letters_at hnr)) ?_
      refine Any.p 4 rfl (by kernel_rfl) (by kernel_rfl) (by kernel_rfl) rfl Ev.move ?_
      refine Any.one 5 rfl (by kernel_rfl) ?_
      refine Seq.call rfl (fun w' hw => by have h := refEncode (w := w') (kind := kd) (xs := xs) (RAt.up (RAt.own (enc := Tg.enc) (xs := xs) (hs := by rw [hx, List.length_map]; omega)) hw) (by omega) (by rw [hx]; exact htz) (by rw [hx]; exact hbd); rw [hx, ← hec] at h; rw [hx]; exact h) (F := _) (by exact List.Perm.refl _) ?_
      rintro _ _ ⟨A45, c45, rfl, rfl⟩
      simp only [List.cons_append, List.nil_append]
      refine Seq.nil ⟨(by repeat (first | exact Part.refl _ | exact Part.nil _ | apply Part.here | apply Part.skip)), ?_⟩
      refine Any.p 6 rfl (by kernel_rfl) (by kernel_rfl) (by kernel_rfl) rfl Ev.extract ?_
      refine Any.p 7 rfl (by kernel_rfl) (by kernel_rfl) (by kernel_rfl) rfl Ev.extract ?_
      refine Any.p 8 rfl (by kernel_rfl) (by kernel_rfl) (by kernel_rfl) rfl Ev.assign ?_
      refine Any.p 9 rfl (by kernel_rfl) (by kernel_rfl) (by kernel_rfl) rfl Ev.assign ?_
      refine Any.done (by kernel_rfl) ?_
      refine JC.ret ?_
      -- return 0
      show retQ _ _ _ _ _ _ _ _
      refine ret2 (H' := [bytesC (.slice A45 ec.2.length c45) ec.2]) (hp := (by repeat (first | exact Part.nil _ | refine Part.at (by repeat (first | exact At.z | apply At.s)) ?_))) (hpost := ?_)
      exact ⟨A45, c45, rfl, rfl⟩
theorem refLine {w : World} {i : Input} (hw0 : i.Wf) : Spec Go.Proofs.Tryd.prog 7 #[.agg i.enc.toArray] w [] (LinePost (lineF i)) := by
  by_cases hE : refE i = 0
  · exact refLine1 hw0 hE
  · exact refLine0 hw0 hE
end Go.Rx
/- An event's line: plain, and as the document tells it. -/
namespace Go.Rx
open Go Go.RowKit Go.Lib Go.Proofs.YthpejgmkiomfhaaDoor
set_option linter.unusedVariables false
set_option linter.unusedSimpArgs false
def evTg (e : Event) (f : RF) : Tg := ⟨f.tag, decS (eventValueF e f.tag).1.toNat⟩
def kindTg (e : Event) : Tg := ⟨150, decS e.kind.toNat⟩
def evTags (e : Event) : List RF → List Tg
  | [] => []
  | f :: r => evTg e f :: kindTg e :: r.map (evTg e)
theorem evTags_snoc (e : Event) {a : List RF} (h : a ≠ []) (f : RF) : evTags e (a ++ [f]) = evTags e a ++ [evTg e f] := by
  cases a with
  | nil => exact absurd rfl h
  | cons x r => simp [evTags]
theorem evTags_len (e : Event) {a : List RF} (h : a ≠ []) : (evTags e a).length = a.length + 1 := by
  cases a with
  | nil => exact absurd rfl h
  | cons x r => simp [evTags]
theorem evTags_le (e : Event) (a : List RF) : (evTags e a).length ≤ a.length + 1 := by
  cases a with
  | nil => exact Nat.zero_le _
  | cons x r => simp [evTags]
theorem evTags_mem (e : Event) {l : List RF} {t : Tg} (h : t ∈ evTags e l) : t = kindTg e ∨ ∃ f ∈ l, t = evTg e f := by
  cases l with
  | nil => cases h
  | cons x r =>
    simp only [evTags, List.mem_cons, List.mem_map] at h
    rcases h with rfl | rfl | ⟨f, hf, rfl⟩
    · exact .inr ⟨x, List.mem_cons_self .., rfl⟩
    · exact .inl rfl
    · exact .inr ⟨f, List.mem_cons_of_mem _ hf, rfl⟩
def evLineF (e : Event) : Int × List Int := if refEvE e = 0 then encF ⟨#[56]⟩ (evTags e (toldRF e.kind)) else (refEvE e, [])
theorem mod_rng (x : Int) : 0 ≤ x % 18446744073709551616 ∧ x % 18446744073709551616 ≤ 18446744073709551615 := by omega
theorem eventValueF_range {e : Event} (hw : e.Wf) (t : Int) : 0 ≤ (eventValueF e t).1 ∧ (eventValueF e t).1 ≤ 18446744073709551615 := by
  obtain ⟨p, hp⟩ : ∃ p, p = eventValueF e t := ⟨_, rfl⟩
  rw [← hp]
  unfold eventValueF at hp
  by_cases h34 : t = 34
  · rw [if_pos h34] at hp; subst hp; exact hw.seq
  rw [if_neg h34] at hp
  by_cases h11 : t = 11
  · rw [if_pos h11] at hp; subst hp; exact hw.id
  rw [if_neg h11] at hp
  by_cases h41 : t = 41
  · rw [if_pos h41] at hp; subst hp; exact hw.target
  rw [if_neg h41] at hp
  by_cases h37 : t = 37
  · rw [if_pos h37] at hp; subst hp; exact hw.other
  rw [if_neg h37] at hp
  by_cases h1 : t = 1
  · rw [if_pos h1] at hp; subst hp; exact mod_rng _
  rw [if_neg h1] at hp
  by_cases h38 : t = 38
  · rw [if_pos h38] at hp; subst hp; exact hw.qty
  rw [if_neg h38] at hp
  by_cases h210 : t = 210
  · rw [if_pos h210] at hp; subst hp; exact hw.peak
  rw [if_neg h210] at hp
  subst hp
  exact mod_rng _
theorem evValsGo_vals {i : Event} : ∀ (l : List RF) (s s' : Event × List Int), evValsGo i l s = some s' → s'.2 = s.2 ++ l.map fun f => (eventValueF i f.tag).1
  | [], s, s', h => by
    simp only [evValsGo, Option.some.injEq] at h
    subst h
    simp
  | f :: r, s, s', h => by
    simp only [evValsGo] at h
    cases hs : evStepF i f s with
    | none => rw [hs] at h; cases h
    | some q =>
      rw [hs] at h
      have h2 := evValsGo_vals r q s' h
      unfold evStepF at hs
      split at hs
      · cases hs
      · split at hs
        · cases hs
        · simp only [Option.some.injEq] at hs
          subst hs
          rw [h2]
          simp
theorem told_tags {k : Int} : ∀ f ∈ toldRF k, f.tag.toNat < 10000 := by
  have h : ((toldRF k).all fun f => decide (f.tag.toNat < 10000)) = true := by
    unfold toldRF
    repeat (first | rfl | split)
  intro f hf
  exact of_decide_eq_true (List.all_eq_true.1 h f hf)
set_option maxHeartbeats 2000000 in
set_option maxRecDepth 100000 in
theorem refEventLine0 {w : World} {e : Event} (hE : ¬ refEvE e = 0) : Spec Go.Proofs.Tryd.prog 9 #[.agg e.enc.toArray] w [] (LinePost (evLineF e)) := by
  have hl : evLineF e = (refEvE e, []) := if_neg hE
  rw [hl]
  refine Spec.enter (fn := Go.Proofs.Tryd.f9) (n := 54) [.agg e.enc.toArray] Go.Proofs.Tryd.func9 (by kernel_rfl) rfl Go.Proofs.Tryd.ntmps9 Go.Proofs.Tryd.results9 rfl (Own.nil _) ?_
  refine JC.re (fun w h => h.nilOwn 5 1) ?_
  refine JC.rs ?_
  refine Seq.box (cs := [_, _, _, _, _, _, _, _, _, _, _, _, _]) (k := ?_); intro b1
  refine Seq.p rfl Ev.assign ?_
  refine Seq.p rfl Ev.assign ?_
  refine Seq.nil ?_
  refine JC.rs ?_
  refine Seq.p rfl (Ev.ldBA ag.api_Event) ?_
  refine Seq.call rfl (fun w hw => refEvValues) (F := _) (by exact List.Perm.refl _) ?_
  intro u N hN
  rw [EvValuesPost, if_neg hE] at hN
  subst hN
  refine Seq.re (fun w h => h.part ⟨N, List.perm_append_comm⟩) ?_
  refine Seq.p rfl Ev.move ?_
  refine Seq.p rfl Ev.extract ?_
  refine Seq.p rfl Ev.extract ?_
  refine Seq.p rfl Ev.assign ?_
  refine Seq.p rfl Ev.assign ?_
  refine Seq.nil ?_
  refine JC.seq ?_
  refine JC.rs ?_
  refine Seq.p rfl Ev.move ?_
  refine Seq.p rfl Ev.ne ?_
  refine Seq.nil ?_
  first | refine JC.c (ht := fun c15 => ?_) (hf := fun c15 => ?_) | refine JC.cb (ht := fun c15 => ?_) (hf := fun c15 => ?_)
  · -- then_t15
    refine JC.rs ?_
    refine Seq.p rfl Ev.move ?_
    refine Seq.p rfl Ev.assign ?_
    refine Seq.p rfl Ev.assign ?_
    refine Seq.nil ?_
    refine JC.ret ?_
    -- return 0
    show retQ _ _ _ _ _ _ _ _
    refine ret2 (H' := [bytesC (.slice none 0 0) []]) (hp := (by repeat (first | exact Part.nil _ | refine Part.at (by repeat (first | exact At.z | apply At.s)) ?_))) (hpost := ?_)
    exact ⟨none, 0, rfl, rfl⟩
  · -- else_t15
    exact absurd hE c15
set_option maxHeartbeats 2000000 in
set_option maxRecDepth 100000 in
theorem refEventLine1 {w : World} {e : Event} (hw0 : e.Wf) (hE : refEvE e = 0) : Spec Go.Proofs.Tryd.prog 9 #[.agg e.enc.toArray] w [] (LinePost (evLineF e)) := by
  have hl : evLineF e = encF ⟨#[56]⟩ (evTags e (toldRF e.kind)) := if_pos hE
  rw [hl]
  have hsm := toldRF_small e.kind
  have htg := told_tags (k := e.kind)
  obtain ⟨l, hl0⟩ : ∃ l, l = toldRF e.kind := ⟨_, rfl⟩
  rw [← hl0]
  rw [← hl0] at hsm htg
  have hn1 : 1 ≤ e.kind ∧ e.kind ≤ 5 := Classical.not_not.1 fun h => by
    have h2 : refEvE e = 41 := if_pos h
    omega
  have hkr : (decS e.kind.toNat).size ≤ 20 := (decS_facts (n := e.kind.toNat) (by omega)).2.1
  have htz : ∀ t ∈ evTags e l, t.tag.toNat < 10000 ∧ t.value.size ≤ 20 := fun t ht => by
    rcases evTags_mem e ht with rfl | ⟨f, hf, rfl⟩
    · exact ⟨by show Int.toNat 150 < _; decide, hkr⟩
    · have hr := eventValueF_range hw0 f.tag
      exact ⟨htg f hf, (decS_facts (n := (eventValueF e f.tag).1.toNat) (by omega)).2.1⟩
  refine Spec.enter (fn := Go.Proofs.Tryd.f9) (n := 54) [.agg e.enc.toArray] Go.Proofs.Tryd.func9 (by kernel_rfl) rfl Go.Proofs.Tryd.ntmps9 Go.Proofs.Tryd.results9 rfl (Own.nil _) ?_
  refine JC.rs ?_
  refine Seq.box (cs := [_, _, _, _, _, _, _, _, _, _, _, _, _]) (k := ?_); intro b1
  refine Seq.p rfl Ev.assign ?_
  refine Seq.p rfl Ev.assign ?_
  refine Seq.nil ?_
  refine JC.rs ?_
  refine Seq.p rfl (Ev.ldBA ag.api_Event) ?_
  refine Seq.call rfl (fun w hw => refEvValues) (F := _) (by exact List.Perm.refl _) ?_
  intro u N hN
  rw [EvValuesPost, if_pos hE] at hN
  obtain ⟨s, A, cc, hn0, hv, rfl, rfl⟩ := hN
  have hls : s.2 = l.map fun f => (eventValueF e f.tag).1 := by have := evValsGo_vals _ _ _ hv; rw [← hl0] at this; simpa using this
  obtain ⟨vs, hvs⟩ : ∃ x, x = s.2 := ⟨_, rfl⟩
  rw [← hvs] at hls
  rw [← hvs]
  have hvl : vs.length = l.length := by rw [hls, List.length_map]
  have hlp : 1 ≤ l.length := by rw [hl0]; exact toldRF_pos hn0
  have hlne : l ≠ [] := fun h => by rw [h] at hlp; simp at hlp
  have hxl := evTags_len e hlne
  have hbd : (bodyL ⟨#[56]⟩ (evTags e l)).length ≤ 1099511627776 := body_short (by decide) (by omega) htz
  obtain ⟨ec, hec⟩ : ∃ x, x = encF ⟨#[56]⟩ (evTags e l) := ⟨_, rfl⟩
  rw [← hec]
  refine Seq.p rfl Ev.move ?_
  refine Seq.p rfl Ev.extract ?_
  refine Seq.p rfl Ev.extract ?_
  refine Seq.p rfl Ev.assign ?_
  refine Seq.p rfl Ev.assign ?_
  refine Seq.nil ?_
  refine JC.seq ?_
  refine JC.rs ?_
  refine Seq.p rfl Ev.move ?_
  refine Seq.p rfl Ev.ne ?_
  refine Seq.nil ?_
  first | refine JC.c (ht := fun c15 => ?_) (hf := fun c15 => ?_) | refine JC.cb (ht := fun c15 => ?_) (hf := fun c15 => ?_)
  · -- then_t15
    exact absurd rfl c15
  · -- else_t15
    refine JC.skip ?_
    refine JC.rs ?_
    refine Seq.p rfl (Ev.faB fd.api_Event_1) ?_
    refine Seq.p rfl (Ev.ldB sc.int) ?_
    refine Seq.call rfl (fun w hw => hl0 ▸ refTold hn0) (F := _) (by exact List.Perm.refl _) ?_
    rintro _ _ ⟨bl, rfl, rfl⟩
    refine Seq.p rfl Ev.assign ?_
    refine Seq.nil ?_
    refine JC.rs ?_
    refine Seq.p rfl Ev.assign ?_
    refine Seq.re (fun w h => Upd.nilOwn h 68 2) ?_
    refine Seq.nil ?_
    refine JC.seq ?_
    refine JC.rs ?_
    refine Seq.p rfl Ev.assign ?_
    refine Seq.nil ?_
    refine JC.blk ?_
    refine JC.loop (α := Nat) (I := fun k e1 H1 => ∃ A2 c2 xs, Has [7, 8, 20, 21, 22, 23, 24, 25, 26, 27, 28, 29, 30, 31, 32, 33, 34, 35, 36, 37, 38, 39, 40, 41, 42, 43, 44, 45, 46, 47, 48, 49] [(8, .int .i64 (k : Int)), (7, .slice A2 xs.length c2)] _ e1 ∧ H1 = [tagsC (.slice A2 xs.length c2) xs, .box bl 65 (l.flatMap RF.enc), .own 22 1 (.slice A vs.length cc) vs.length (vs.flatMap uenc), .box b1 30 e.enc] ∧ k ≤ l.length ∧ xs = evTags e (l.take k)) (μ := fun k => l.length - k) 0 ⟨none, 0, [], Has.mk Off.refl (allLook_cons (by repeat (first | exact Look.here | apply Look.there (hne := rfl) | exact Look.const | apply Look.mix rfl | exact Look.arg0 | apply Look.args | exact Look.func)) (allLook_cons (by repeat (first | exact Look.here | apply Look.there (hne := rfl) | exact Look.const | apply Look.mix rfl | exact Look.arg0 | apply Look.args | exact Look.func)) allLook_nil)), rfl, by omega, rfl⟩ ?_
    rintro k _ _ ⟨A2, c2, xs, ⟨ui, rfl⟩, rfl, hk, hx⟩; dsimp only [setL]
    refine JC.seq ?_
    refine JC.rs ?_
    refine Seq.p rfl Ev.move ?_
    refine Seq.p rfl Ev.move ?_
    refine Seq.p rfl (Ev.lenSl sl.sl_bourseref04_field (hr := RAt.box (enc := RF.enc) (sz := 4) (hs := by omega))) ?_
    refine Seq.p rfl Ev.lt ?_
    refine Seq.nil ?_
    first | refine JC.c (ht := fun c23 => ?_) (hf := fun c23 => ?_) | refine JC.cb (ht := fun c23 => ?_) (hf := fun c23 => ?_)
    · -- then_t23
      have hk2 : k < l.length := by omega
      have hvk : vs[k]! = (eventValueF e (l[k]!).tag).1 := by rw [hls, getElem!_pos _ k (by rw [List.length_map]; exact hk2), List.getElem_map, getElem!_pos l k hk2]
      have hrg := eventValueF_range hw0 (l[k]!).tag
      rw [← hvk] at hrg
      have hdec : ∀ w' : World, Spec Go.Proofs.Tryd.prog 23 #[.int .u64 (vs[k]!)] w' [] (fun u _ => u = .string (decS (vs[k]!).toNat)) := fun w' => by
        have h := refDecimal (w := w') (n := (vs[k]!).toNat) (by omega)
        rw [show (((vs[k]!).toNat : Nat) : Int) = vs[k]! by omega] at h
        exact h
      have hdec2 : ∀ w' : World, Spec Go.Proofs.Tryd.prog 23 #[.int .u64 e.kind] w' [] (fun u _ => u = .string (decS e.kind.toNat)) := fun w' => by
        have h := refDecimal (w := w') (n := e.kind.toNat) (by omega)
        rw [show ((e.kind.toNat : Nat) : Int) = e.kind by omega] at h
        exact h
      have hxk : xs.length ≤ 9 := by rw [hx]; have := evTags_le e (l.take k); rw [List.length_take] at this; omega
      have htk : l.take (k + 1) = l.take k ++ [l[k]!] := by rw [List.take_succ_eq_append_getElem hk2, getElem!_pos l k hk2]
      refine JC.skip ?_
      refine JC.seq ?_
      refine JC.blk ?_
      refine JC.asE 0 mixed ?_
      refine Any.p 0 rfl (by kernel_rfl) (by kernel_rfl) (by kernel_rfl) rfl Ev.move ?_
      refine Any.p 1 rfl (by kernel_rfl) (by kernel_rfl) (by kernel_rfl) rfl Ev.move ?_
      refine Any.p 2 rfl (by kernel_rfl) (by kernel_rfl) (by kernel_rfl) rfl Ev.move ?_
      refine Any.p 3 rfl (by kernel_rfl) (by kernel_rfl) (by kernel_rfl) rfl (Ev.iaN sl.sl_bourseref04_field (hr := RAt.box (enc := RF.enc) (sz := 4) (hs := by omega))) ?_
      refine Any.p 4 rfl (by kernel_rfl) (by kernel_rfl) (by kernel_rfl) rfl (Ev.fa fd.bourseref04_field_0) ?_
      refine Any.p 5 rfl (by kernel_rfl) (by kernel_rfl) (by kernel_rfl) rfl (Ev.ldE sc.int (hr := RAt.box (enc := RF.enc) (sz := 4) (hs := by omega))) ?_
      refine Any.p 6 rfl (by kernel_rfl) (by kernel_rfl) (by kernel_rfl) rfl Ev.move ?_
      refine Any.p 7 rfl (by kernel_rfl) (by kernel_rfl) (by kernel_rfl) rfl Ev.move ?_
      refine Any.p 8 rfl (by kernel_rfl) (by kernel_rfl) (by kernel_rfl) rfl (Ev.iaN sl.sl_uint64 (hr := RAt.own (enc := uenc) (xs := vs) (sz := 1) (hs := by omega))) ?_
      refine Any.p 9 rfl (by kernel_rfl) (by kernel_rfl) (by kernel_rfl) rfl (Ev.ldE1 sc.uint64 (hr := RAt.own (enc := uenc) (xs := vs) (sz := 1) (hs := by omega))) ?_
      refine Any.call 10 rfl (by kernel_rfl) (by kernel_rfl) (by kernel_rfl) rfl (fun w hw => hdec _) ?_
      refine Any.p 11 rfl (by kernel_rfl) (by kernel_rfl) (by kernel_rfl) rfl (Ev.buildN [_, _] pl.api_Tag z.api_Tag) ?_
      refine Any.one 12 rfl (by kernel_rfl) ?_
      refine Seq.buildSlN [_, _] (hsl := sl.sl_api_Tag) (hz := z.api_Tag) (k := ?_); intro b38
      refine Seq.nil ⟨(by repeat (first | exact Part.refl _ | exact Part.nil _ | apply Part.here | apply Part.skip)), ?_⟩
      refine Any.one 13 rfl (by kernel_rfl) ?_
      refine Seq.append (hsl := sl.sl_api_Tag) (he := el.api_Tag) (hsrc := (fun w' hw => Src.box (hl := by rfl) (hc := fun q u hu => hu) sl.sl_api_Tag At.z hw)) (k := ?_); intro A39 c39
      refine Seq.nil ⟨(by repeat (first | exact Part.refl _ | exact Part.nil _ | apply Part.here | apply Part.skip)), ?_⟩
      refine Any.p 14 rfl (by kernel_rfl) (by kernel_rfl) (by kernel_rfl) rfl Ev.assign ?_
      refine Any.done (by kernel_rfl) ?_
      refine JC.rs ?_
      refine Seq.p rfl Ev.move ?_
      refine Seq.p rfl Ev.eq ?_
      refine Seq.nil ?_
      first | refine JC.c (ht := fun c41 => ?_) (hf := fun c41 => ?_) | refine JC.cb (ht := fun c41 => ?_) (hf := fun c41 => ?_)
      · -- then_t41
        obtain rfl : k = 0 := by omega
        have hx0 : xs = [] := by rw [hx]; rfl
        have hxs : xs ++ [evTg e l[0]!] ++ [kindTg e] = evTags e (l.take (0 + 1)) := by rw [hx0, htk]; rfl
        refine JC.reg ?_
        refine Seq.p rfl Ev.move ?_
        refine Seq.p rfl (Ev.faB fd.api_Event_1) ?_
        refine Seq.p rfl (Ev.ldB sc.int) ?_
        refine Seq.p rfl (Ev.convU64 it.int it.uint64) ?_
        refine Seq.callP rfl (fun w hw => hdec2 _) ?_
        refine Seq.p rfl (Ev.buildN [_, _] pl.api_Tag z.api_Tag) ?_
        refine Seq.buildSlN [_, _] (hsl := sl.sl_api_Tag) (hz := z.api_Tag) (k := ?_); intro b48
        refine Seq.append (hsl := sl.sl_api_Tag) (he := el.api_Tag) (hsrc := (fun w' hw => Src.box (hl := by rfl) (hc := fun q u hu => hu) sl.sl_api_Tag At.z hw)) (k := ?_); intro A49 c49
        refine Seq.p rfl Ev.assign ?_
        refine Seq.nil ?_
        refine JC.reg ?_
        refine Seq.p rfl Ev.move ?_
        refine Seq.p rfl (by first | exact Ev.inc | exact Ev.add) ?_
        refine Seq.p rfl Ev.assign ?_
        refine Seq.nil ?_
        first
          | (have hst : tagsC (.slice A49 (xs ++ [evTg e l[0]!] ++ [kindTg e]).length c49) (xs ++ [evTg e l[0]!] ++ [kindTg e]) = .own 68 2 (.slice A49 (xs.length + 1 + 1) c49) (xs.length + 1 + 1) (xs.flatMap Tg.enc ++ [.int .i64 (l[0]!).tag, .string (decS (vs[0]!).toNat)] ++ [.int .i64 150, .string (decS e.kind.toNat)]) := by rw [hvk]; simp [tagsC, Tg.enc, evTg, kindTg, List.flatMap_append]
             exact ⟨0 + 1, [_, _, _, _], Part.skip (Part.skip (Part.refl _)), ⟨A49, c49, xs ++ [evTg e l[0]!] ++ [kindTg e], Has.mk (by repeat (first | refine Off.upd ?_ rfl | exact Off.mix | refine Off.mix2 ?_ rfl | exact Off.refl)) (allLook_cons (by repeat (first | exact Look.here | apply Look.there (hne := rfl) | exact Look.const | apply Look.mix rfl | exact Look.arg0 | apply Look.args | exact Look.func)) (allLook_cons (by rw [List.length_append, List.length_append]; exact (by repeat (first | exact Look.here | apply Look.there (hne := rfl) | exact Look.const | apply Look.mix rfl | exact Look.arg0 | apply Look.args | exact Look.func))) allLook_nil)), by rw [hst], by omega, hxs⟩, by omega⟩)
          | (have hst : tagsC (.slice A39 (xs ++ [evTg e l[k]!]).length c39) (xs ++ [evTg e l[k]!]) = .own 68 2 (.slice A39 (xs.length + 1) c39) (xs.length + 1) (xs.flatMap Tg.enc ++ [.int .i64 (l[k]!).tag, .string (decS (vs[k]!).toNat)]) := by rw [hvk]; simp [tagsC, Tg.enc, evTg, List.flatMap_append]
             exact ⟨k + 1, [_, _, _, _], Part.skip (Part.refl _), ⟨A39, c39, xs ++ [evTg e l[k]!], Has.mk (by repeat (first | refine Off.upd ?_ rfl | exact Off.mix | refine Off.mix2 ?_ rfl | exact Off.refl)) (allLook_cons (by repeat (first | exact Look.here | apply Look.there (hne := rfl) | exact Look.const | apply Look.mix rfl | exact Look.arg0 | apply Look.args | exact Look.func)) (allLook_cons (by rw [List.length_append]; exact (by repeat (first | exact Look.here | apply Look.there (hne := rfl) | exact Look.const | apply Look.mix rfl | exact Look.arg0 | apply Look.args | exact Look.func))) allLook_nil)), by rw [hst], by omega, hxs⟩, by omega⟩)
      · -- else_t41
        have hne : l.take k ≠ [] := fun h => by have := congrArg List.length h; rw [List.length_take, List.length_nil] at this; omega
        have hxs : xs ++ [evTg e l[k]!] = evTags e (l.take (k + 1)) := by rw [htk, evTags_snoc e hne, hx]
        refine JC.skip ?_
        refine JC.reg ?_
        refine Seq.p rfl Ev.move ?_
        refine Seq.p rfl (by first | exact Ev.inc | exact Ev.add) ?_
        refine Seq.p rfl Ev.assign ?_
        refine Seq.nil ?_
        first
          | (have hst : tagsC (.slice A49 (xs ++ [evTg e l[0]!] ++ [kindTg e]).length c49) (xs ++ [evTg e l[0]!] ++ [kindTg e]) = .own 68 2 (.slice A49 (xs.length + 1 + 1) c49) (xs.length + 1 + 1) (xs.flatMap Tg.enc ++ [.int .i64 (l[0]!).tag, .string (decS (vs[0]!).toNat)] ++ [.int .i64 150, .string (decS e.kind.toNat)]) := by rw [hvk]; simp [tagsC, Tg.enc, evTg, kindTg, List.flatMap_append]
             exact ⟨0 + 1, [_, _, _, _], Part.skip (Part.skip (Part.refl _)), ⟨A49, c49, xs ++ [evTg e l[0]!] ++ [kindTg e], Has.mk (by repeat (first | refine Off.upd ?_ rfl | exact Off.mix | refine Off.mix2 ?_ rfl | exact Off.refl)) (allLook_cons (by repeat (first | exact Look.here | apply Look.there (hne := rfl) | exact Look.const | apply Look.mix rfl | exact Look.arg0 | apply Look.args | exact Look.func)) (allLook_cons (by rw [List.length_append, List.length_append]; exact (by repeat (first | exact Look.here | apply Look.there (hne := rfl) | exact Look.const | apply Look.mix rfl | exact Look.arg0 | apply Look.args | exact Look.func))) allLook_nil)), by rw [hst], by omega, hxs⟩, by omega⟩)
          | (have hst : tagsC (.slice A39 (xs ++ [evTg e l[k]!]).length c39) (xs ++ [evTg e l[k]!]) = .own 68 2 (.slice A39 (xs.length + 1) c39) (xs.length + 1) (xs.flatMap Tg.enc ++ [.int .i64 (l[k]!).tag, .string (decS (vs[k]!).toNat)]) := by rw [hvk]; simp [tagsC, Tg.enc, evTg, List.flatMap_append]
             exact ⟨k + 1, [_, _, _, _], Part.skip (Part.refl _), ⟨A39, c39, xs ++ [evTg e l[k]!], Has.mk (by repeat (first | refine Off.upd ?_ rfl | exact Off.mix | refine Off.mix2 ?_ rfl | exact Off.refl)) (allLook_cons (by repeat (first | exact Look.here | apply Look.there (hne := rfl) | exact Look.const | apply Look.mix rfl | exact Look.arg0 | apply Look.args | exact Look.func)) (allLook_cons (by rw [List.length_append]; exact (by repeat (first | exact Look.here | apply Look.there (hne := rfl) | exact Look.const | apply Look.mix rfl | exact Look.arg0 | apply Look.args | exact Look.func))) allLook_nil)), by rw [hst], by omega, hxs⟩, by omega⟩)
    · -- else_t23
      obtain rfl : k = l.length := by omega
      rw [List.take_length] at hx
      refine JC.exit ?_ -- 0
      refine JC.rs ?_
      refine Seq.p rfl Ev.move ?_
      refine Seq.call rfl (fun w' hw => by have h := refEncode (w := w') (kind := ⟨#[56]⟩) (xs := xs) (RAt.up (RAt.own (enc := Tg.enc) (xs := xs) (hs := by rw [hx]; omega)) hw) (by decide) (by rw [hx]; intro t ht; have := (htz t ht).2; omega) (by rw [hx]; exact hbd); rw [hx, ← hec] at h; rw [hx]; exact h) (F := _) (by exact List.Perm.refl _) ?_
      rintro _ _ ⟨A51, c51, rfl, rfl⟩
      simp only [List.cons_append, List.nil_append]
      refine Seq.p rfl Ev.extract ?_
      refine Seq.p rfl Ev.extract ?_
      refine Seq.p rfl Ev.assign ?_
      refine Seq.p rfl Ev.assign ?_
      refine Seq.nil ?_
      refine JC.ret ?_
      -- return 0
      show retQ _ _ _ _ _ _ _ _
      refine ret2 (H' := [bytesC (.slice A51 ec.2.length c51) ec.2]) (hp := (by repeat (first | exact Part.nil _ | refine Part.at (by repeat (first | exact At.z | apply At.s)) ?_))) (hpost := ?_)
      exact ⟨A51, c51, rfl, rfl⟩
theorem refEventLine {w : World} {e : Event} (hw0 : e.Wf) : Spec Go.Proofs.Tryd.prog 9 #[.agg e.enc.toArray] w [] (LinePost (evLineF e)) := by
  by_cases hE : refEvE e = 0
  · exact refEventLine1 hw0 hE
  · exact refEventLine0 hE
end Go.Rx
/- spoil: what was told is written over. -/
namespace Go.Rx
open Go Go.RowKit Go.Lib Go.Proofs.YthpejgmkiomfhaaDoor
set_option linter.unusedVariables false
set_option linter.unusedSimpArgs false
set_option maxHeartbeats 1000000 in
set_option maxRecDepth 100000 in
theorem lawSpoil {w : World} {A : Option Addr} {c : Nat} {l : List Int} (hl : l.length ≤ 140737488351232) (ho : Own w [bytesC (.slice A l.length c) l]) :
    Spec Go.Proofs.Tryd.prog 10 #[.slice A l.length c] w [bytesC (.slice A l.length c) l] (fun u H' => H' = []) := by
  refine Spec.enter (fn := Go.Proofs.Tryd.f10) (n := 15) [.slice A l.length c] Go.Proofs.Tryd.func10 (by kernel_rfl) rfl Go.Proofs.Tryd.ntmps10 Go.Proofs.Tryd.results10 rfl ho ?_
  refine JC.seq ?_
  refine JC.rs ?_
  refine Seq.p rfl Ev.assign ?_
  refine Seq.nil ?_
  refine JC.blk ?_
  refine JC.loop (α := Nat × List Int) (I := fun s e1 H1 => Has [2, 3, 4, 5, 6, 7, 8, 9, 10, 11] [(2, .int .i64 (s.1 : Int))] _ e1 ∧ H1 = [bytesC (.slice A l.length c) s.2] ∧ s.1 ≤ l.length ∧ s.2.length = l.length) (μ := fun s => l.length - s.1) (0, l) ⟨Has.mk Off.refl (allLook_cons (by repeat (first | exact Look.here | apply Look.there (hne := rfl) | exact Look.const | apply Look.mix rfl | exact Look.arg0 | apply Look.args | exact Look.func)) allLook_nil), rfl, by omega, rfl⟩ ?_
  rintro ⟨i, l'⟩ _ _ ⟨⟨u, rfl⟩, rfl, hi, hl'⟩; dsimp only [setL]; dsimp only at hi hl'
  refine JC.seq ?_
  refine JC.rs ?_
  refine Seq.p rfl Ev.move ?_
  refine Seq.p rfl Ev.move ?_
  refine Seq.p rfl (Ev.lenSl sl.sl_uint8 (hr := RAt.own (enc := byteEnc) (xs := l'))) ?_
  refine Seq.p rfl Ev.lt ?_
  refine Seq.nil ?_
  first | refine JC.c (ht := fun c6 => ?_) (hf := fun c6 => ?_) | refine JC.cb (ht := fun c6 => ?_) (hf := fun c6 => ?_)
  · -- then_t6
    have hi2 : i < l'.length := by omega
    refine JC.skip ?_
    refine JC.seq ?_
    refine JC.blk ?_
    refine JC.reg ?_
    refine Seq.p rfl Ev.move ?_
    refine Seq.p rfl Ev.move ?_
    refine Seq.p rfl (Ev.iaN sl.sl_uint8 (hr := RAt.own (enc := byteEnc) (xs := l'))) ?_
    refine Seq.stOwn (enc := byteEnc) (xs := l') (q := i) 238 sz.uint8 (by decide) (h1 := byteOne) (k := ?_)
    refine Seq.nil ?_
    refine JC.reg ?_
    refine Seq.p rfl Ev.move ?_
    refine Seq.p rfl (by first | exact Ev.inc | exact Ev.add) ?_
    refine Seq.p rfl Ev.assign ?_
    refine Seq.nil ?_
    refine ⟨(i + 1, l'.set i 238), _, Part.refl _, ⟨Has.mk (by repeat (first | refine Off.upd ?_ rfl | exact Off.mix | refine Off.mix2 ?_ rfl | exact Off.refl)) (allLook_cons (by repeat (first | exact Look.here | apply Look.there (hne := rfl) | exact Look.const | apply Look.mix rfl | exact Look.arg0 | apply Look.args | exact Look.func)) allLook_nil), rfl, by show i + 1 ≤ l.length; omega, by show (l'.set i 238).length = _; rw [List.length_set]; exact hl'⟩, by show l.length - (i + 1) < l.length - i; omega⟩
  · -- else_t6
    refine JC.exit ?_ -- 0
    refine JC.reg ?_
    refine Seq.p rfl Ev.move ?_
    refine Seq.buildSlN [_, _, _] (hsl := sl.sl_uint8) (hz := z.uint8) (k := ?_); intro b13
    refine Seq.append (hsl := sl.sl_uint8) (he := el.uint8) (hsrc := (fun w' hw => Src.box (hl := by rfl) (hc := fun q u hu => hu) sl.sl_uint8 At.z hw)) (k := ?_); intro A14 c14
    refine Seq.nil ?_
    -- return 0
    first | show retQ _ _ _ _ _ .normal _ _ | (simp only [thenQ, blockQ, ↓reduceIte]; show retQ _ _ _ _ _ .normal _ _)
    exact ⟨[], [], RVs.nil, Part.nil _, rfl⟩
    skip
end Go.Rx
/- An event's line: the program's tags are the document's. -/
namespace Go.Rx
open Go Go.RowKit Go.Lib Go.Proofs.YthpejgmkiomfhaaDoor
set_option linter.unusedVariables false
set_option linter.unusedSimpArgs false
theorem toldEvE_eq {e : Event} (hw : e.Wf) : toldEvE e = refEvE e := by
  have h := congrArg Prod.snd (packEv_eq hw)
  unfold packEvF refPackEvF at h
  by_cases h1 : toldEvE e = 0
  · by_cases h2 : refEvE e = 0
    · rw [h1, h2]
    · rw [if_pos h1, if_neg h2] at h
      exact absurd h.symm h2
  · by_cases h2 : refEvE e = 0
    · rw [if_neg h1, if_pos h2] at h
      exact absurd h h1
    · rw [if_neg h1, if_neg h2] at h
      exact h
theorem toldEv_same {e : Event} {fs : List Fld} (hF : evFieldsF e = some fs) : fs.map tgOf = (toldRF e.kind).map (evTg e) := by
  unfold evFieldsF at hF
  by_cases h1 : e.kind = 1
  · rw [if_pos h1] at hF
    cases hF
    rw [h1]
    rfl
  rw [if_neg h1] at hF
  by_cases h2 : e.kind = 2
  · rw [if_pos h2] at hF
    cases hF
    rw [h2]
    rfl
  rw [if_neg h2] at hF
  by_cases h3 : e.kind = 3
  · rw [if_pos h3] at hF
    cases hF
    rw [h3]
    rfl
  rw [if_neg h3] at hF
  by_cases h4 : e.kind = 4
  · rw [if_pos h4] at hF
    cases hF
    rw [h4]
    rfl
  rw [if_neg h4] at hF
  by_cases h5 : e.kind = 5
  · rw [if_pos h5] at hF
    cases hF
    rw [h5]
    rfl
  rw [if_neg h5] at hF
  cases hF
/-- What slices.Insert puts in at place 1. -/
theorem evTags_ins (e : Event) {l : List RF} (h : l ≠ []) : evTags e l = (l.map (evTg e)).take 1 ++ kindTg e :: (l.map (evTg e)).drop 1 := by
  cases l with
  | nil => exact absurd rfl h
  | cons x r => simp [evTags]
/-- An event's line as the program tells it: its fields with the kind put in at place 1. -/
theorem evLineF_ok {e : Event} {fs : List Fld} (hw : e.Wf) (h : toldEvE e = 0) (hF : evFieldsF e = some fs) : evLineF e = encF ⟨#[56]⟩ ((fs.map tgOf).take 1 ++ kindTg e :: (fs.map tgOf).drop 1) := by
  have h2 : refEvE e = 0 := by rw [← toldEvE_eq hw]; exact h
  have hk := (evFieldsF_small hF).2
  have hne : toldRF e.kind ≠ [] := fun h => by
    have := toldRF_pos hk
    rw [h] at this
    simp at this
  unfold evLineF
  rw [if_pos h2, toldEv_same hF, evTags_ins e hne]
theorem evLineF_err {e : Event} (hw : e.Wf) (h : ¬ toldEvE e = 0) : evLineF e = (toldEvE e, []) := by
  unfold evLineF
  rw [← toldEvE_eq hw, if_neg h]
end Go.Rx
/- slices.Insert at tags: one tag at place 1. -/
namespace Go.Rx
open Go Go.RowKit Go.Lib Go.Proofs.YthpejgmkiomfhaaDoor
set_option linter.unusedVariables false
set_option linter.unusedSimpArgs false
theorem tags_len (xs : List Tg) : (xs.flatMap Tg.enc).length = xs.length * 2 := by
  induction xs with
  | nil => rfl
  | cons x xs ih => rw [List.flatMap_cons, List.length_append, ih, List.length_cons, Nat.add_mul]; show 2 + _ = _; omega
theorem tags_one (xs : List Tg) : ∀ u ∈ xs.flatMap Tg.enc, u.oneCell' = true := by
  intro u hu
  obtain ⟨t, _, ht⟩ := List.mem_flatMap.1 hu
  simp only [Tg.enc, List.mem_cons, List.not_mem_nil, or_false] at ht
  rcases ht with rfl | rfl <;> rfl
theorem ins_grow {a2 R Y zs : List Value} (ha : a2.length = 2) (hY : Y.length = 2) (hz : zs.length = 2 + R.length) :
    let c1 := ((a2 ++ R).take 2 ++ zs).take 2 ++ Y ++ ((a2 ++ R).take 2 ++ zs).drop (2 + Y.length)
    c1.take 4 ++ R ++ c1.drop (4 + R.length) = a2 ++ Y ++ R := by
  intro c1
  have h1 : (a2 ++ R).take 2 = a2 := by rw [← ha]; exact List.take_left
  have hc : c1 = a2 ++ Y ++ zs.drop 2 := by
    show ((a2 ++ R).take 2 ++ zs).take 2 ++ Y ++ ((a2 ++ R).take 2 ++ zs).drop (2 + Y.length) = _
    rw [h1, hY]
    congr 1
    · congr 1
      rw [← ha]; exact List.take_left
    · rw [List.drop_append, List.drop_eq_nil_of_le (by omega), List.nil_append]
      congr 1
      omega
  have h4 : (a2 ++ Y).length = 4 := by rw [List.length_append]; omega
  rw [hc]
  have e1 : (a2 ++ Y ++ zs.drop 2).take 4 = a2 ++ Y := by rw [← h4]; exact List.take_left
  have e2 : (a2 ++ Y ++ zs.drop 2).drop (4 + R.length) = [] := List.drop_eq_nil_of_le (by rw [List.length_append, h4, List.length_drop]; omega)
  rw [e1, e2, List.append_nil]
theorem ins_room {a2 R Y zs : List Value} {k : Nat} (ha : a2.length = 2) (hY : Y.length = 2) (hR : 2 ≤ R.length) (hz : 2 ≤ zs.length) (hk : k = 4 + R.length) :
    let c0 := a2 ++ R ++ zs
    let c1 := c0.take 4 ++ R ++ c0.drop (4 + R.length)
    (c1.take 2 ++ Y ++ c1.drop (2 + Y.length)).take k = a2 ++ Y ++ R := by
  intro c0 c1
  have h4 : (c0.take 4).length = 4 := by rw [List.length_take, List.length_append, List.length_append]; omega
  have h2 : c1.take 2 = a2 := by
    show (c0.take 4 ++ R ++ _).take 2 = a2
    rw [List.append_assoc, List.take_append_of_le_length (by omega), List.take_take]
    show (a2 ++ R ++ zs).take 2 = a2
    rw [List.append_assoc, ← ha]
    exact List.take_left
  have h3 : c1.drop 4 = R ++ c0.drop (4 + R.length) := by
    show (c0.take 4 ++ R ++ _).drop 4 = _
    rw [List.append_assoc]
    exact List.drop_left' h4
  rw [h2, hY, h3, hk]
  have h5 : (a2 ++ Y ++ R).length = 4 + R.length := by simp only [List.length_append]; omega
  rw [← List.append_assoc, ← h5]
  exact List.take_left
set_option maxHeartbeats 2000000 in
set_option maxRecDepth 100000 in
theorem msgInsert {w : World} {A : Option Addr} {c bv : Nat} {y : Tg} {xs : List Tg} (h1 : 1 < xs.length) (h64 : xs.length ≤ 64) (ho : Own w [tagsC (.slice A xs.length c) xs, .box bv 68 y.enc]) :
    Spec Go.Proofs.Tryd.prog 27 #[.slice A xs.length c, .int .i64 1, .slice (some ⟨bv, 0, none⟩) 1 1] w [tagsC (.slice A xs.length c) xs, .box bv 68 y.enc]
      (fun u N => ∃ A' c', u = .slice A' (xs.length + 1) c' ∧ N = [tagsC (.slice A' (xs.length + 1) c') (xs.take 1 ++ y :: xs.drop 1)]) := by
  obtain ⟨x0, r, rfl⟩ : ∃ x0 r, xs = x0 :: r := by cases xs with | nil => simp at h1 | cons x r => exact ⟨x, r, rfl⟩
  have hr1 : 1 ≤ r.length := by simp at h1; omega
  have hr64 : r.length ≤ 63 := by simp at h64; omega
  obtain ⟨n, hn⟩ : ∃ n, n = (x0 :: r).length := ⟨_, rfl⟩
  have hnr : n = r.length + 1 := by rw [hn]; rfl
  have htag : ∀ v l, tagsC v l = .own 68 2 v l.length (l.flatMap Tg.enc) := fun _ _ => rfl
  have hfl : (x0 :: r).flatMap Tg.enc = x0.enc ++ r.flatMap Tg.enc := List.flatMap_cons
  have hlen2 : ((x0 :: r).take 1 ++ y :: (x0 :: r).drop 1).length = n + 1 := by simp; omega
  have hcells : ((x0 :: r).take 1 ++ y :: (x0 :: r).drop 1).flatMap Tg.enc = x0.enc ++ y.enc ++ r.flatMap Tg.enc := by simp
  simp only [htag, hlen2, hcells]
  rw [htag] at ho
  rw [hfl, ← hn] at ho ⊢
  have hRl := tags_len r
  have hRo := tags_one r
  obtain ⟨R, hR⟩ : ∃ R, R = r.flatMap Tg.enc := ⟨_, rfl⟩
  rw [← hR] at ho ⊢ hRl hRo
  have hx0 : x0.enc.length = 2 := rfl
  have hy0 : y.enc.length = 2 := rfl
  obtain ⟨a2, ha2⟩ : ∃ a2, a2 = x0.enc := ⟨_, rfl⟩
  rw [← ha2] at ho ⊢ hx0
  have hy1 : ∀ u ∈ y.enc, u.oneCell' = true := by
    have := tags_one [y]
    simpa using this
  obtain ⟨Y, hYe⟩ : ∃ Y, Y = y.enc := ⟨_, rfl⟩
  rw [← hYe] at ho ⊢ hy0 hy1
  clear hn hfl hcells hlen2 htag h1 h64 ha2 hYe hR
  refine Spec.enter (fn := Go.Proofs.Tryd.f27) (n := 95) [.slice A n c, .int .i64 ((1 : Nat) : Int), .slice (some ⟨bv, 0, none⟩) 1 1] Go.Proofs.Tryd.func27 (by kernel_rfl) rfl Go.Proofs.Tryd.ntmps27 Go.Proofs.Tryd.results27 rfl ho ?_
  refine JC.lens At.z ?_
  intro hnc hcm hxl
  obtain ⟨A', hA'⟩ : ∃ A', A = some A' := by
    cases A with
    | some a => exact ⟨a, rfl⟩
    | none =>
      have := ho.ok _ (List.mem_cons_self ..)
      rcases this.2 with ⟨h0, h1⟩ | ⟨g, off, cap, cur, fr, he, _⟩
      · omega
      · cases he
  subst hA'
  obtain ⟨g, off, sp⟩ := A'
  obtain rfl : sp = none := by
    have := ho.ok _ (List.mem_cons_self ..)
    rcases this.2 with ⟨h0, h1⟩ | ⟨g, off, cap, cur, fr, he, _⟩
    · cases h0
    · cases he; rfl
  have hcm' : c ≤ 9223372036854775807 := by simp only [maxLen] at hcm; omega
  refine JC.rs ?_
  refine Seq.p rfl Ev.assign ?_
  refine Seq.nil ?_
  refine JC.rs ?_
  refine Seq.p rfl Ev.move ?_
  refine Seq.p rfl Ev.move ?_
  refine Seq.p rfl (Ev.cutLo (l := 1) sl.sl_api_Tag) ?_
  refine Seq.nil ?_
  refine JC.rs ?_
  refine Seq.p rfl Ev.move ?_
  refine Seq.p rfl (Ev.lenH sl.sl_api_Tag) ?_
  refine Seq.p rfl Ev.assign ?_
  refine Seq.nil ?_
  refine JC.seq ?_
  refine JC.rs ?_
  refine Seq.p rfl Ev.move ?_
  refine Seq.p rfl Ev.eq ?_
  refine Seq.nil ?_
  first | refine JC.c (ht := fun c16 => ?_) (hf := fun c16 => ?_) | refine JC.cb (ht := fun c16 => ?_) (hf := fun c16 => ?_)
  · -- then_t16
    exact absurd c16 (by decide)
  · -- else_t16
    refine JC.skip ?_
    refine JC.rs ?_
    refine Seq.p rfl Ev.move ?_
    refine Seq.p rfl (Ev.lenH sl.sl_api_Tag) ?_
    refine Seq.p rfl Ev.assign ?_
    refine Seq.nil ?_
    refine JC.seq ?_
    refine JC.rs ?_
    refine Seq.p rfl Ev.move ?_
    refine Seq.p rfl Ev.move ?_
    refine Seq.p rfl Ev.eq ?_
    refine Seq.nil ?_
    first | refine JC.c (ht := fun c22 => ?_) (hf := fun c22 => ?_) | refine JC.cb (ht := fun c22 => ?_) (hf := fun c22 => ?_)
    · -- then_t22
      omega
    · -- else_t22
      refine JC.skip ?_
      refine JC.seq ?_
      refine JC.rs ?_
      refine Seq.p rfl Ev.move ?_
      refine Seq.p rfl Ev.move ?_
      refine Seq.p rfl Ev.addN ?_
      refine Seq.p rfl Ev.move ?_
      refine Seq.p rfl (Ev.capSl sl.sl_api_Tag) ?_
      refine Seq.p rfl Ev.gt ?_
      refine Seq.nil ?_
      first | refine JC.c (ht := fun c31 => ?_) (hf := fun c31 => ?_) | refine JC.cb (ht := fun c31 => ?_) (hf := fun c31 => ?_)
      · -- then_t31
        refine JC.rs ?_
        refine Seq.p rfl Ev.move ?_
        refine Seq.p rfl Ev.move ?_
        refine Seq.p rfl (Ev.cutHi (h := 1) sl.sl_api_Tag) ?_
        refine Seq.p rfl Ev.move ?_
        refine Seq.p rfl Ev.move ?_
        refine Seq.p rfl Ev.addN ?_
        refine Seq.p rfl Ev.move ?_
        refine Seq.p rfl (Ev.as (v' := .int .i64 ((n : Nat) : Int)) (by rw [Nat.add_sub_cancel]) (Ev.subN (a := n + 1) (b := 1))) ?_
        refine Seq.growZeros (q := 1) (m := n) (hsl := sl.sl_api_Tag) (he := el.api_Tag) (hi := it.int) (hH := At.z) (kk := ?_); intro b40 c40 zs hzl
        refine Seq.p rfl Ev.assign ?_
        refine Seq.nil ?_
        refine JC.lens At.z ?_
        intro hnc9 hcm9 hxl9
        refine JC.rs ?_
        refine Seq.p rfl Ev.move ?_
        refine Seq.p rfl Ev.move ?_
        refine Seq.p rfl (Ev.cutLo (l := 1) sl.sl_api_Tag) ?_
        refine Seq.p rfl Ev.move ?_
        refine Seq.copyOwn (off := 0) (o := 1 * 2) (k := 1) (i := 0) (hd := sl.sl_api_Tag) (hH := At.z) (hk := Nat.min_eq_left (by omega)) (hcs := Cells.boxed (off := 0) (At.s (At.s At.z)) (fun j u h => by rw [Nat.zero_add]; exact h)) (hl := hy0) (hpos := by omega) (h1 := hy1) (hfit := by omega) (kk := ?_)
        refine Seq.nil ?_
        refine JC.asE 0 mixed ?_
        refine Any.p 0 rfl (by kernel_rfl) (by kernel_rfl) (by kernel_rfl) rfl Ev.move ?_
        refine Any.p 1 rfl (by kernel_rfl) (by kernel_rfl) (by kernel_rfl) rfl Ev.move ?_
        refine Any.p 2 rfl (by kernel_rfl) (by kernel_rfl) (by kernel_rfl) rfl Ev.move ?_
        refine Any.p 3 rfl (by kernel_rfl) (by kernel_rfl) (by kernel_rfl) rfl Ev.addN ?_
        refine Any.p 4 rfl (by kernel_rfl) (by kernel_rfl) (by kernel_rfl) rfl (Ev.cutLo (l := 1 + 1) sl.sl_api_Tag) ?_
        refine Any.p 5 rfl (by kernel_rfl) (by kernel_rfl) (by kernel_rfl) rfl Ev.move ?_
        refine Any.p 6 rfl (by kernel_rfl) (by kernel_rfl) (by kernel_rfl) rfl Ev.move ?_
        refine Any.p 7 rfl (by kernel_rfl) (by kernel_rfl) (by kernel_rfl) rfl (Ev.cutLo (l := 1) sl.sl_api_Tag) ?_
        refine Any.one 8 rfl (by kernel_rfl) ?_
        refine Seq.copyOwn (off := 0) (o := (1 + 1) * 2) (k := n - 1) (i := 0) (hd := sl.sl_api_Tag) (hH := At.z) (hk := Nat.min_eq_left (by omega)) (hcs := Cells.own (o := 1 * 2) (At.s At.z) (cs := R) (fun j u h => by rw [List.getElem?_append_right (by omega), hx0]; simpa using h)) (hl := by omega) (hpos := by omega) (h1 := hRo) (hfit := by omega) (kk := ?_)
        refine Seq.nil ⟨(by repeat (first | exact Part.refl _ | exact Part.nil _ | apply Part.here | apply Part.skip)), ?_⟩
        refine Any.done (by kernel_rfl) ?_
        refine JC.rs ?_
        refine Seq.p rfl Ev.move ?_
        refine Seq.p rfl Ev.assign ?_
        refine Seq.nil ?_
        refine JC.ret ?_
        -- return 0
        show retQ _ _ _ _ _ _ _ _
        refine ret1 (hp := Part.here (Part.nil _)) (hpost := ?_)
        have h := ins_grow (a2 := a2) (R := R) (Y := Y) (zs := zs) hx0 hy0 (by omega)
        rw [Nat.add_comm n 1]
        exact ⟨_, _, rfl, congrArg (fun l => [Chunk.own 68 2 (.slice (some ⟨b40, 0, none⟩) (1 + n) c40) (1 + n) l]) h⟩
      · -- else_t31
        refine JC.full At.z ?_
        intro zs hzl _ _ _
        have hcl : (c - n) * 2 = c * 2 - n * 2 := Nat.sub_mul ..
        refine JC.skip ?_
        refine JC.rs ?_
        refine Seq.p rfl Ev.move ?_
        refine Seq.p rfl Ev.move ?_
        refine Seq.p rfl Ev.move ?_
        refine Seq.p rfl Ev.addN ?_
        refine Seq.p rfl (Ev.cutHi (h := n + 1) sl.sl_api_Tag) ?_
        refine Seq.p rfl Ev.assign ?_
        refine Seq.nil ?_
        refine JC.seq ?_
        refine JC.rs ?_
        refine Seq.p rfl Ev.move ?_
        refine Seq.p rfl Ev.move ?_
        refine Seq.p rfl Ev.move ?_
        refine Seq.p rfl Ev.move ?_
        refine Seq.p rfl Ev.addN ?_
        refine Seq.p rfl (Ev.cutLo (l := 1 + 1) sl.sl_api_Tag) ?_
        refine Seq.p rfl (Ev.notOver (tS := 56) (tR := 4) (i := 1) (j := 0) (off := off) Go.Proofs.Tryd.func55 (by kernel_rfl) (by kernel_rfl) (by kernel_rfl) (by kernel_rfl) (hd := sl.sl_api_Tag) (hA := At.s At.z) (hB := At.z) (hij := by decide) (hxs := by simp only [List.length_append]; omega)) ?_
        refine Seq.p rfl Ev.not ?_
        refine Seq.nil ?_
        first | refine JC.c (ht := fun c68 => ?_) (hf := fun c68 => ?_) | refine JC.cb (ht := fun c68 => ?_) (hf := fun c68 => ?_)
        · -- then_t68
          refine JC.asE 0 mixed ?_
          refine Any.p 0 rfl (by kernel_rfl) (by kernel_rfl) (by kernel_rfl) rfl Ev.move ?_
          refine Any.p 1 rfl (by kernel_rfl) (by kernel_rfl) (by kernel_rfl) rfl Ev.move ?_
          refine Any.p 2 rfl (by kernel_rfl) (by kernel_rfl) (by kernel_rfl) rfl Ev.move ?_
          refine Any.p 3 rfl (by kernel_rfl) (by kernel_rfl) (by kernel_rfl) rfl Ev.addN ?_
          refine Any.p 4 rfl (by kernel_rfl) (by kernel_rfl) (by kernel_rfl) rfl (Ev.cutLo (l := 1 + 1) sl.sl_api_Tag) ?_
          refine Any.p 5 rfl (by kernel_rfl) (by kernel_rfl) (by kernel_rfl) rfl Ev.move ?_
          refine Any.p 6 rfl (by kernel_rfl) (by kernel_rfl) (by kernel_rfl) rfl Ev.move ?_
          refine Any.p 7 rfl (by kernel_rfl) (by kernel_rfl) (by kernel_rfl) rfl (Ev.cutLo (l := 1) sl.sl_api_Tag) ?_
          refine Any.one 8 rfl (by kernel_rfl) ?_
          refine Seq.copyOwn (off := off) (o := (1 + 1) * 2) (k := n - 1) (i := 0) (hd := sl.sl_api_Tag) (hH := At.z) (hk := (Nat.min_eq_right (by omega)).trans (by omega)) (hcs := Cells.own (o := 1 * 2) At.z (cs := R) (fun j u h => by have h9 := (List.getElem?_eq_some_iff.1 h).1; rw [List.append_assoc, List.getElem?_append_right (by omega), List.getElem?_append_left (by omega), hx0]; simpa using h)) (hl := by omega) (hpos := by omega) (h1 := hRo) (hfit := by omega) (kk := ?_)
          refine Seq.nil ⟨(by repeat (first | exact Part.refl _ | exact Part.nil _ | apply Part.here | apply Part.skip)), ?_⟩
          refine Any.done (by kernel_rfl) ?_
          refine JC.rs ?_
          refine Seq.p rfl Ev.move ?_
          refine Seq.p rfl Ev.move ?_
          refine Seq.p rfl (Ev.cutLo (l := 1) sl.sl_api_Tag) ?_
          refine Seq.p rfl Ev.move ?_
          refine Seq.copyOwn (off := off) (o := 1 * 2) (k := 1) (i := 0) (hd := sl.sl_api_Tag) (hH := At.z) (hk := Nat.min_eq_left (by omega)) (hcs := Cells.boxed (off := 0) (At.s At.z) (fun j u h => by rw [Nat.zero_add]; exact h)) (hl := hy0) (hpos := by omega) (h1 := hy1) (hfit := by omega) (kk := ?_)
          refine Seq.nil ?_
          refine JC.rs ?_
          refine Seq.p rfl Ev.move ?_
          refine Seq.p rfl Ev.assign ?_
          refine Seq.nil ?_
          refine JC.re (fun w h => Upd.short (m := n + 1) h At.z (by omega)) ?_
          refine JC.ret ?_
          -- return 1
          show retQ _ _ _ _ _ _ _ _
          refine ret1 (hp := Part.here (Part.nil _)) (hpost := ?_)
          have h := ins_room (a2 := a2) (R := R) (Y := Y) (zs := zs) (k := (n + 1) * 2) hx0 hy0 (by omega) (by omega) (by omega)
          exact ⟨_, _, rfl, congrArg (fun l => [Chunk.own 68 2 (.slice (some ⟨g, off, none⟩) (n + 1) c) (n + 1) l]) h⟩
        · -- else_t68
          cases c68
end Go.Rx
/- The program's EventLine. -/
namespace Go.Rx
open Go Go.RowKit Go.Lib Go.Proofs.YthpejgmkiomfhaaDoor
set_option linter.unusedVariables false
set_option linter.unusedSimpArgs false
theorem evFieldsF_fine {e : Event} (hw : e.Wf) {fs : List Fld} (h : evFieldsF e = some fs) : 2 ≤ fs.length ∧ ∀ f ∈ fs, f.fine ∧ f.tag.toNat < 10000 := by
  have hup : ∀ t n m : Int, t.toNat < 10000 → (upToF t n m).fine ∧ (upToF t n m).tag.toNat < 10000 := fun t n m ht => ⟨⟨by show 0 ≤ n % _; omega, by show n % _ ≤ _; omega⟩, ht⟩
  have hwh : ∀ t n : Int, t.toNat < 10000 → 0 ≤ n ∧ n ≤ 18446744073709551615 → (wholeF t n).fine ∧ (wholeF t n).tag.toNat < 10000 := fun t n ht hn => ⟨hn, ht⟩
  have h1 := hw.seq
  have h2 := hw.id
  have h3 := hw.other
  have h4 := hw.target
  have h5 := hw.member
  have h6 := hw.qty
  have h7 := hw.peak
  unfold evFieldsF at h
  repeat (first | (split at h) | (simp only [Option.some.injEq] at h; subst h; refine ⟨Nat.le_of_ble_eq_true rfl, fun f hf => ?_⟩; simp only [evFields1, evFields2, evFields3, evFields4, evFields5, List.mem_cons, List.not_mem_nil, or_false] at hf; (repeat (first | (rcases hf with rfl | hf; · first | exact hup _ _ _ (by decide) | exact hwh _ _ (by decide) (by omega)) | (subst hf; first | exact hup _ _ _ (by decide) | exact hwh _ _ (by decide) (by omega))))) | cases h)
set_option maxHeartbeats 2000000 in
set_option maxRecDepth 100000 in
theorem msgEventLine0 {w : World} {e : Event} (hw0 : e.Wf) (hE : ¬ toldEvE e = 0) : Spec Go.Proofs.Tryd.prog 8 #[.agg e.enc.toArray] w [] (LinePost (evLineF e)) := by
  rw [evLineF_err hw0 hE]
  refine Spec.enter (fn := Go.Proofs.Tryd.f8) (n := 31) [.agg e.enc.toArray] Go.Proofs.Tryd.func8 (by kernel_rfl) rfl Go.Proofs.Tryd.ntmps8 Go.Proofs.Tryd.results8 rfl (Own.nil _) ?_
  refine JC.re (fun w h => h.nilOwn 5 1) ?_
  refine JC.rs ?_
  refine Seq.box (cs := [_, _, _, _, _, _, _, _, _, _, _, _, _]) (k := ?_); intro b1
  refine Seq.p rfl Ev.assign ?_
  refine Seq.p rfl Ev.assign ?_
  refine Seq.nil ?_
  refine JC.rs ?_
  refine Seq.p rfl (Ev.ldBA ag.api_Event) ?_
  refine Seq.call rfl (fun w hw => msgToldEv) (F := _) (by exact List.Perm.refl _) ?_
  intro u N hN
  rw [EvToldPost, if_neg hE] at hN
  subst hN
  refine Seq.re (fun w h => h.part ⟨N, List.perm_append_comm⟩) ?_
  refine Seq.p rfl Ev.move ?_
  refine Seq.p rfl Ev.extract ?_
  refine Seq.p rfl Ev.extract ?_
  refine Seq.p rfl Ev.extract ?_
  refine Seq.p rfl Ev.assign ?_
  refine Seq.p rfl Ev.assign ?_
  refine Seq.p rfl Ev.assign ?_
  refine Seq.nil ?_
  refine JC.seq ?_
  refine JC.rs ?_
  refine Seq.p rfl Ev.move ?_
  refine Seq.p rfl Ev.ne ?_
  refine Seq.nil ?_
  first | refine JC.c (ht := fun c15 => ?_) (hf := fun c15 => ?_) | refine JC.cb (ht := fun c15 => ?_) (hf := fun c15 => ?_)
  · -- then_t15
    refine JC.rs ?_
    refine Seq.p rfl Ev.move ?_
    refine Seq.p rfl Ev.assign ?_
    refine Seq.p rfl Ev.assign ?_
    refine Seq.nil ?_
    refine JC.ret ?_
    -- return 0
    show retQ _ _ _ _ _ _ _ _
    refine ret2 (H' := [bytesC (.slice none 0 0) []]) (hp := (by repeat (first | exact Part.nil _ | refine Part.at (by repeat (first | exact At.z | apply At.s)) ?_))) (hpost := ?_)
    exact ⟨none, 0, rfl, rfl⟩
  · -- else_t15
    exact absurd hE c15
set_option maxHeartbeats 2000000 in
set_option maxRecDepth 100000 in
theorem msgEventLine1 {w : World} {e : Event} (hw0 : e.Wf) (hE : toldEvE e = 0) (hL : LaidT w) : Spec Go.Proofs.Tryd.prog 8 #[.agg e.enc.toArray] w [] (LinePost (evLineF e)) := by
  refine Spec.enter (fn := Go.Proofs.Tryd.f8) (n := 31) [.agg e.enc.toArray] Go.Proofs.Tryd.func8 (by kernel_rfl) rfl Go.Proofs.Tryd.ntmps8 Go.Proofs.Tryd.results8 rfl (Own.nil _) ?_
  refine JC.rs ?_
  refine Seq.box (cs := [_, _, _, _, _, _, _, _, _, _, _, _, _]) (k := ?_); intro b1
  refine Seq.p rfl Ev.assign ?_
  refine Seq.p rfl Ev.assign ?_
  refine Seq.nil ?_
  refine JC.rs ?_
  refine Seq.p rfl (Ev.ldBA ag.api_Event) ?_
  refine Seq.call rfl (fun w hw => msgToldEv) (F := _) (by exact List.Perm.refl _) ?_
  intro u N hN
  rw [EvToldPost, if_pos hE] at hN
  obtain ⟨fs, A, cc, b3, hF, rfl, rfl⟩ := hN
  have hll := evLineF_ok hw0 hE hF
  obtain ⟨hf2, hfi⟩ := evFieldsF_fine hw0 hF
  obtain ⟨h8, hk⟩ := evFieldsF_small hF
  obtain ⟨xs, hxs⟩ : ∃ x, x = fs.map tgOf := ⟨_, rfl⟩
  have hxl : xs.length = fs.length := by rw [hxs, List.length_map]
  have hkr : (decS e.kind.toNat).size ≤ 20 := (decS_facts (n := e.kind.toNat) (by omega)).2.1
  have hxf : ∀ t ∈ xs, t.tag.toNat < 10000 ∧ t.value.size ≤ 20 := fun t ht => by
    rw [hxs] at ht
    obtain ⟨f, hf, rfl⟩ := List.mem_map.1 ht
    exact ⟨(hfi f hf).2, tgOf_fine (hfi f hf).1⟩
  rw [← hxs] at hll
  have hyl : (xs.take 1 ++ kindTg e :: xs.drop 1).length = xs.length + 1 := by simp; omega
  have hyf : ∀ t ∈ xs.take 1 ++ kindTg e :: xs.drop 1, t.tag.toNat < 10000 ∧ t.value.size ≤ 20 := fun t ht => by
    rw [List.mem_append, List.mem_cons] at ht
    rcases ht with ht | rfl | ht
    · exact hxf t (List.mem_of_mem_take ht)
    · exact ⟨by show Int.toNat 150 < _; decide, hkr⟩
    · exact hxf t (List.mem_of_mem_drop ht)
  have hbd := body_short (kind := ⟨#[56]⟩) (by decide) (show (xs.take 1 ++ kindTg e :: xs.drop 1).length ≤ 64 by omega) hyf
  obtain ⟨ys, hys⟩ : ∃ ys, ys = xs.take 1 ++ kindTg e :: xs.drop 1 := ⟨_, rfl⟩
  have hins : ∀ {w : World} {A : Option Addr} {c bv : Nat}, Own w [tagsC (.slice A xs.length c) xs, .box bv 68 (kindTg e).enc] → Spec Go.Proofs.Tryd.prog 27 #[.slice A xs.length c, .int .i64 1, .slice (some ⟨bv, 0, none⟩) 1 1] w [tagsC (.slice A xs.length c) xs, .box bv 68 (kindTg e).enc] (fun u N => ∃ A' c', u = .slice A' (xs.length + 1) c' ∧ N = [tagsC (.slice A' (xs.length + 1) c') ys]) := fun ho => hys ▸ msgInsert (by omega) (by omega) ho
  rw [← hys] at hll hyl hyf hbd
  rw [hll]
  obtain ⟨ec, hec⟩ : ∃ x, x = encF ⟨#[56]⟩ ys := ⟨_, rfl⟩
  rw [← hec]
  have hdec : ∀ {w' : World} {H : List Chunk}, Upd w w' [] H → Spec Go.Proofs.Tryd.prog 28 #[.int .u64 e.kind] w' [] (fun u _ => u = .string (decS e.kind.toNat)) := fun hw => by
    have h := textDecimal (u := e.kind.toNat) (by omega) (hL.upd hw)
    rw [show ((e.kind.toNat : Nat) : Int) = e.kind by omega] at h
    exact h
  refine Seq.p rfl Ev.move ?_
  refine Seq.p rfl Ev.extract ?_
  refine Seq.p rfl Ev.extract ?_
  refine Seq.p rfl Ev.extract ?_
  refine Seq.p rfl Ev.assign ?_
  refine Seq.p rfl Ev.assign ?_
  refine Seq.p rfl Ev.assign ?_
  refine Seq.nil ?_
  refine JC.seq ?_
  refine JC.rs ?_
  refine Seq.p rfl Ev.move ?_
  refine Seq.p rfl Ev.ne ?_
  refine Seq.nil ?_
  first | refine JC.c (ht := fun c15 => ?_) (hf := fun c15 => ?_) | refine JC.cb (ht := fun c15 => ?_) (hf := fun c15 => ?_)
  · -- then_t15
    exact absurd rfl c15
  · -- else_t15
    refine JC.skip ?_
    refine JC.rs ?_
    refine Seq.p rfl Ev.move ?_
    refine Seq.call rfl (fun w' hw => by have h := msgTagged (w := w') (fs := fs) (RAt.up (RAt.own (enc := Fld.enc) (sz := 3) (hs := by omega)) hw) (fun f hf => (hfi f hf).1) (by omega) (hL.upd hw); rw [← hxs] at h; exact h) (F := _) (by exact List.Perm.refl _) ?_
    rintro _ _ ⟨A18, c18, rfl, rfl⟩
    simp only [List.cons_append, List.nil_append]
    refine Seq.p rfl Ev.assign ?_
    refine Seq.nil ?_
    refine JC.rs ?_
    refine Seq.p rfl Ev.move ?_
    refine Seq.p rfl (Ev.faB fd.api_Event_1) ?_
    refine Seq.p rfl (Ev.ldB sc.int) ?_
    refine Seq.p rfl (Ev.convU64 it.int it.uint64) ?_
    refine Seq.callP rfl (fun w hw => hdec hw) ?_
    refine Seq.p rfl (Ev.buildN (kindTg e).enc pl.api_Tag z.api_Tag) ?_
    refine Seq.buildSlN (kindTg e).enc (hsl := sl.sl_api_Tag) (hz := z.api_Tag) (k := ?_); intro b25
    refine Seq.call rfl (fun w' hw => hins ((hw.part ⟨_, List.Perm.swap _ _ _⟩).own)) (F := _) (by exact List.Perm.swap _ _ _) ?_
    rintro _ _ ⟨A26, c26, rfl, rfl⟩
    simp only [List.cons_append, List.nil_append]
    rw [← hyl]
    refine Seq.p rfl Ev.assign ?_
    refine Seq.nil ?_
    refine JC.rs ?_
    refine Seq.p rfl Ev.move ?_
    refine Seq.call rfl (fun w' hw => by have h := textEncode (w := w') (kind := ⟨#[56]⟩) (xs := ys) (RAt.up (RAt.own (enc := Tg.enc) (xs := ys) (hs := by omega)) hw) (by decide) (fun t ht => by have := (hyf t ht).2; omega) hbd (hL.upd hw); rw [← hec] at h; exact h) (F := _) (by exact List.Perm.refl _) ?_
    rintro _ _ ⟨A28, c28, rfl, rfl⟩
    simp only [List.cons_append, List.nil_append]
    refine Seq.p rfl Ev.extract ?_
    refine Seq.p rfl Ev.extract ?_
    refine Seq.p rfl Ev.assign ?_
    refine Seq.p rfl Ev.assign ?_
    refine Seq.nil ?_
    refine JC.ret ?_
    -- return 0
    show retQ _ _ _ _ _ _ _ _
    refine ret2 (H' := [bytesC (.slice A28 ec.2.length c28) ec.2]) (hp := (by repeat (first | exact Part.nil _ | refine Part.at (by repeat (first | exact At.z | apply At.s)) ?_))) (hpost := ?_)
    exact ⟨A28, c28, rfl, rfl⟩
theorem msgEventLine {w : World} {e : Event} (hw0 : e.Wf) (hL : LaidT w) : Spec Go.Proofs.Tryd.prog 8 #[.agg e.enc.toArray] w [] (LinePost (evLineF e)) := by
  by_cases hE : toldEvE e = 0
  · exact msgEventLine1 hw0 hE hL
  · exact msgEventLine0 hw0 hE
end Go.Rx
/- The document's examples: lives. -/
namespace Go.Rx
open Go Go.RowKit Go.Lib Go.Proofs.YthpejgmkiomfhaaDoor
set_option linter.unusedVariables false
set_option linter.unusedSimpArgs false
def liveI1 : Input := ⟨1, 1, 7, 0, 3, 1, 1, 100, 5, 0, 0⟩
def liveI2 : Input := ⟨3, 0, 0, 0, 0, 0, 0, 0, 0, 0, 0⟩
def liveI3 : Input := ⟨1, 2, 0, 7, 0, 0, 0, 0, 0, 0, 0⟩
theorem live_p1 : packF liveI1 = (⟨1, [7, 0, 1103806595075, 100, 5, 0, 0]⟩, 0) := by decide +kernel
theorem live_p2 : packF liveI2 = (⟨0, [0, 0, 0, 0, 0, 0, 0]⟩, 41) := by decide +kernel
theorem live_wf3 : liveI3.Wf := by
  refine ⟨?_, ?_, ?_, ?_, ?_, ?_, ?_, ?_, ?_, ?_⟩ <;> decide
theorem live_l3 : ∃ l, lineF liveI3 = (0, l) ∧ l.length ≤ 2048 ∧ readF l = ⟨⟨#[70]⟩, [⟨41, ⟨#[55]⟩⟩], (l.length : Int), 0, l.length⟩ ∧ isBytes l := by
  have hF : fieldsF liveI3 = some (2, ⟨#[70]⟩, [wholeF 41 7]) := rfl
  have h0 : toldE liveI3 = 0 := by decide +kernel
  have h1 := lineF_ok h0 hF
  have hd : (decS 7) = ⟨#[55]⟩ := by decide +kernel
  have ht : [wholeF 41 7].map tgOf = [⟨41, ⟨#[55]⟩⟩] := by
    show [(⟨41, decS 7⟩ : Tg)] = _
    rw [hd]
  rw [ht] at h1
  have hk : ¬ kindB ⟨#[70]⟩ = false := by decide +kernel
  have he : ¬ encE [] [⟨41, ⟨#[55]⟩⟩] ≠ 0 := by decide +kernel
  have h3 := line_len ⟨#[70]⟩ [⟨41, ⟨#[55]⟩⟩]
  have h4 : (bodyL ⟨#[70]⟩ [⟨41, ⟨#[55]⟩⟩]).length ≤ 100 := by
    unfold bodyL
    rw [List.length_append, field_len, List.flatMap_cons, List.flatMap_nil, List.append_nil, field_len]
    have := decL_four (n := 35) (by decide)
    have := decL_four (n := 41) (by decide)
    show (decL 35).length + 2 + 1 + ((decL 41).length + 2 + 1) ≤ 100
    omega
  have h5 := decL_four (n := (bodyL ⟨#[70]⟩ [⟨41, ⟨#[55]⟩⟩]).length) (by omega)
  have h6 := encF_line hk (by decide) he (show ¬ 2048 < (lineL ⟨#[70]⟩ [⟨41, ⟨#[55]⟩⟩]).length by omega)
  rw [h6] at h1
  refine ⟨_, h1, by omega, ?_, line_bytes _ _⟩
  have := read_enc h6 []
  rwa [List.append_nil] at this
set_option maxHeartbeats 2000000 in
set_option maxRecDepth 100000 in
theorem lawLives {w : World} (hL : Laid w) : Spec Go.Proofs.Tryd.prog 11 #[] w [] (fun u _ => u = .bool true) := by
  obtain ⟨l, hl, hll, hrd, hB⟩ := live_l3
  refine Spec.enter (fn := Go.Proofs.Tryd.f11) (n := 76) [] Go.Proofs.Tryd.func11 (by kernel_rfl) rfl Go.Proofs.Tryd.ntmps11 Go.Proofs.Tryd.results11 rfl (Own.nil _) ?_
  refine JC.rs ?_
  refine Seq.p rfl Ev.assign ?_
  refine Seq.nil ?_
  refine JC.rs ?_
  refine Seq.p rfl (Ev.buildN [.int .i64 1, .int .u64 7, .int .u64 0, .int .u32 3, .int .i64 1, .int .i64 1, .int .i64 100, .int .u64 5, .int .u64 0] pl.api_Command z.api_Command) ?_
  refine Seq.alloc (cs := [_, _, _, _, _, _, _, _, _]) (hz := z.api_Command) (k := ?_); intro b1
  refine Seq.storeN [_, _, _, _, _, _, _, _, _] sz.api_Command (k := ?_)
  refine Seq.nil ?_
  refine JC.rs ?_
  refine Seq.p rfl (Ev.ldBA ag.api_Command) ?_
  refine Seq.p rfl (Ev.buildN liveI1.enc pl.api_Input z.api_Input) ?_
  refine Seq.callP rfl (v := .tuple #[.agg [.int .u8 1, .int .u64 7, .int .u64 0, .int .u64 1103806595075, .int .u64 100, .int .u64 5, .int .u64 0, .int .u64 0].toArray, .int .i64 0]) (fun w' hw => by have h := msgPack (w := w') (i := liveI1); rw [live_p1] at h; exact h) ?_
  refine Seq.p rfl Ev.move ?_
  refine Seq.p rfl Ev.extract ?_
  refine Seq.p rfl Ev.extract ?_
  refine Seq.alloc (cs := [_, _, _, _, _, _, _, _]) (hz := z.api_Frame) (k := ?_); intro b2
  refine Seq.storeN [_, _, _, _, _, _, _, _] sz.api_Frame (k := ?_)
  refine Seq.p rfl Ev.assign ?_
  refine Seq.nil ?_
  refine JC.rs ?_
  refine Seq.p rfl (Ev.buildN liveI2.enc pl.api_Input z.api_Input) ?_
  refine Seq.callP rfl (v := .tuple #[.agg [.int .u8 0, .int .u64 0, .int .u64 0, .int .u64 0, .int .u64 0, .int .u64 0, .int .u64 0, .int .u64 0].toArray, .int .i64 41]) (fun w' hw => by have h := msgPack (w := w') (i := liveI2); rw [live_p2] at h; exact h) ?_
  refine Seq.p rfl Ev.move ?_
  refine Seq.p rfl Ev.extract ?_
  refine Seq.p rfl Ev.extract ?_
  refine Seq.alloc (cs := [_, _, _, _, _, _, _, _]) (hz := z.api_Frame) (k := ?_); intro b4
  refine Seq.storeN [_, _, _, _, _, _, _, _] sz.api_Frame (k := ?_)
  refine Seq.p rfl Ev.assign ?_
  refine Seq.nil ?_
  refine JC.rs ?_
  refine Seq.p rfl (Ev.buildN [.int .i64 2, .int .u64 0, .int .u64 7, .int .u32 0, .int .i64 0, .int .i64 0, .int .i64 0, .int .u64 0, .int .u64 0] pl.api_Command z.api_Command) ?_
  refine Seq.p rfl (Ev.buildN liveI3.enc pl.api_Input z.api_Input) ?_
  refine Seq.call rfl (fun w' hw => by have h := msgLine (w := w') live_wf3 (hL.t.upd hw); rw [hl] at h; exact h) (F := _) (by exact List.Perm.refl _) ?_
  rintro _ _ ⟨A27, c27, rfl, rfl⟩
  simp only [List.cons_append, List.nil_append]
  refine Seq.p rfl Ev.move ?_
  refine Seq.p rfl Ev.extract ?_
  refine Seq.p rfl Ev.extract ?_
  refine Seq.p rfl Ev.assign ?_
  refine Seq.p rfl Ev.assign ?_
  refine Seq.nil ?_
  refine JC.rs ?_
  refine Seq.p rfl Ev.move ?_
  refine Seq.call rfl (fun w' hw => by have h := textDecode (w := w') (l := l) (RAt.up (RAt.own (enc := byteEnc) (xs := l)) hw) hB (by omega) (hL.upd hw); rw [hrd] at h; exact h) (F := _) (by exact List.Perm.refl _) ?_
  rintro _ _ ⟨A32, c32, rfl, rfl⟩
  simp only [List.cons_append, List.nil_append]
  refine Seq.p rfl Ev.move ?_
  refine Seq.p rfl Ev.extract ?_
  refine Seq.p rfl Ev.extract ?_
  refine Seq.p rfl Ev.extract ?_
  refine Seq.p rfl Ev.extract ?_
  refine Seq.p rfl Ev.assign ?_
  refine Seq.p rfl Ev.assign ?_
  refine Seq.p rfl Ev.assign ?_
  refine Seq.p rfl Ev.assign ?_
  refine Seq.nil ?_
  refine JC.seq ?_
  refine JC.rs ?_
  refine Seq.p rfl Ev.move ?_
  refine Seq.p rfl Ev.ne ?_
  refine Seq.p rfl Ev.move ?_
  refine Seq.orG (D := [39, 40, 41, 42]) (d := 39) (t := 42) (k := 3) (hn := fun h39 => ?_) (hx := ?_)
  · repeat (first | refine Seq.gn rfl rfl rfl rfl ?_ | refine Seq.gu rfl rfl rfl ?_)
    refine Seq.p rfl Ev.pickT ?_
    exact Seq.nil ⟨rfl, (by repeat (first | with_reducible exact Off.refl | refine Off.upd ?_ rfl | exact Off.mix | refine Off.mix2 ?_ rfl)), Look.here⟩
  apply Exists.intro
  refine ⟨fun h39 => ?_, fun u42 => ?_⟩
  · try simp only [decide_eq_true_eq, decide_eq_false_iff_not, Bool.and_eq_true, Bool.or_eq_true, Bool.not_eq_true', Bool.not_eq_false', Bool.or_eq_false_iff, Bool.and_eq_false_imp] at h39
    refine Seq.gy rfl rfl rfl ?_
    refine Seq.p rfl Ev.move ?_
    refine Seq.gy rfl rfl rfl ?_
    refine Seq.p rfl Ev.neStr ?_
    refine Seq.p rfl Ev.pickF ?_
    exact Seq.nil ⟨rfl, (by repeat (first | with_reducible exact Off.refl | refine Off.upd ?_ rfl | exact Off.mix | refine Off.mix2 ?_ rfl)), Look.here⟩
  refine Seq.p rfl Ev.move ?_
  refine Seq.orG (D := [43, 44, 45, 46, 47]) (d := 43) (t := 47) (k := 4) (hn := fun h43 => ?_) (hx := ?_)
  · repeat (first | refine Seq.gn rfl rfl rfl rfl ?_ | refine Seq.gu rfl rfl rfl ?_)
    refine Seq.p rfl Ev.pickT ?_
    exact Seq.nil ⟨rfl, (by repeat (first | with_reducible exact Off.refl | refine Off.upd ?_ rfl | exact Off.mix | refine Off.mix2 ?_ rfl)), Look.here⟩
  apply Exists.intro
  refine ⟨fun h43 => ?_, fun u47 => ?_⟩
  · try simp only [decide_eq_true_eq, decide_eq_false_iff_not, Bool.and_eq_true, Bool.or_eq_true, Bool.not_eq_true', Bool.not_eq_false', Bool.or_eq_false_iff, Bool.and_eq_false_imp] at h43
    refine Seq.gy rfl rfl rfl ?_
    refine Seq.p rfl Ev.move ?_
    refine Seq.gy rfl rfl rfl ?_
    refine Seq.p rfl (Ev.lenSl sl.sl_api_Tag (hr := RAt.own (enc := Tg.enc) (xs := [⟨41, ⟨#[55]⟩⟩]))) ?_
    refine Seq.gy rfl rfl rfl ?_
    refine Seq.p rfl Ev.ne ?_
    refine Seq.p rfl Ev.pickF ?_
    exact Seq.nil ⟨rfl, (by repeat (first | with_reducible exact Off.refl | refine Off.upd ?_ rfl | exact Off.mix | refine Off.mix2 ?_ rfl)), Look.here⟩
  refine Seq.p rfl Ev.move ?_
  refine Seq.orG (D := [48, 49, 50, 51, 52, 53, 54]) (d := 48) (t := 54) (k := 6) (hn := fun h48 => ?_) (hx := ?_)
  · repeat (first | refine Seq.gn rfl rfl rfl rfl ?_ | refine Seq.gu rfl rfl rfl ?_)
    refine Seq.p rfl Ev.pickT ?_
    exact Seq.nil ⟨rfl, (by repeat (first | with_reducible exact Off.refl | refine Off.upd ?_ rfl | exact Off.mix | refine Off.mix2 ?_ rfl)), Look.here⟩
  apply Exists.intro
  refine ⟨fun h48 => ?_, fun u54 => ?_⟩
  · try simp only [decide_eq_true_eq, decide_eq_false_iff_not, Bool.and_eq_true, Bool.or_eq_true, Bool.not_eq_true', Bool.not_eq_false', Bool.or_eq_false_iff, Bool.and_eq_false_imp] at h48
    refine Seq.gy rfl rfl rfl ?_
    refine Seq.p rfl Ev.move ?_
    refine Seq.gy rfl rfl rfl ?_
    refine Seq.p rfl (Ev.iaN sl.sl_api_Tag (i := 0) (hr := RAt.own (enc := Tg.enc) (xs := [⟨41, ⟨#[55]⟩⟩])) (hi := by show 0 < 1; decide)) ?_
    refine Seq.gy rfl rfl rfl ?_
    refine Seq.p rfl (Ev.ldEA ag.api_Tag (i := 0) (hr := RAt.own (enc := Tg.enc) (xs := [⟨41, ⟨#[55]⟩⟩])) (hi := by show 0 < 1; decide)) ?_
    refine Seq.gy rfl rfl rfl ?_
    refine Seq.p rfl (Ev.buildN [_, _] pl.api_Tag z.api_Tag) ?_
    refine Seq.gy rfl rfl rfl ?_
    refine Seq.p rfl (Ev.neAg so.api_Tag ag.api_Tag gd.api_Tag) ?_
    refine Seq.p rfl Ev.pickF ?_
    exact Seq.nil ⟨rfl, (by repeat (first | with_reducible exact Off.refl | refine Off.upd ?_ rfl | exact Off.mix | refine Off.mix2 ?_ rfl)), Look.here⟩
  refine Seq.nil ?_
  first | refine JC.c (ht := fun c54 => ?_) (hf := fun c54 => ?_) | refine JC.cb (ht := fun c54 => ?_) (hf := fun c54 => ?_)
  · -- then_t54
    exfalso
    simp at c54
    simp [Tg.enc, eqL, eqV] at c54
  · -- else_t54
    refine JC.skip ?_
    refine JC.rs ?_
    refine Seq.p rfl Ev.move ?_
    refine Seq.p rfl Ev.eq ?_
    refine Seq.p rfl Ev.move ?_
    refine Seq.andG (D := [57, 58, 59, 60, 61]) (d := 57) (t := 61) (k := 4) (hn := fun h57 => ?_) (hx := ?_)
    · repeat (first | refine Seq.gn rfl rfl rfl rfl ?_ | refine Seq.gu rfl rfl rfl ?_)
      refine Seq.p rfl Ev.pickF ?_
      exact Seq.nil ⟨rfl, (by repeat (first | with_reducible exact Off.refl | refine Off.upd ?_ rfl | exact Off.mix | refine Off.mix2 ?_ rfl)), Look.here⟩
    apply Exists.intro
    refine ⟨fun h57 => ?_, fun u61 => ?_⟩
    · try simp only [decide_eq_true_eq, decide_eq_false_iff_not, Bool.and_eq_true, Bool.or_eq_true, Bool.not_eq_true', Bool.not_eq_false', Bool.or_eq_false_iff, Bool.and_eq_false_imp] at h57
      refine Seq.gy rfl rfl rfl ?_
      refine Seq.p rfl (Ev.faB fd.api_Frame_0) ?_
      refine Seq.gy rfl rfl rfl ?_
      refine Seq.p rfl (Ev.ldB sc.uint8) ?_
      refine Seq.gy rfl rfl rfl ?_
      refine Seq.p rfl Ev.eq ?_
      refine Seq.p rfl Ev.pickT ?_
      exact Seq.nil ⟨rfl, (by repeat (first | with_reducible exact Off.refl | refine Off.upd ?_ rfl | exact Off.mix | refine Off.mix2 ?_ rfl)), Look.here⟩
    refine Seq.p rfl Ev.move ?_
    refine Seq.andG (D := [62, 63, 64, 65, 66, 67]) (d := 62) (t := 67) (k := 5) (hn := fun h62 => ?_) (hx := ?_)
    · repeat (first | refine Seq.gn rfl rfl rfl rfl ?_ | refine Seq.gu rfl rfl rfl ?_)
      refine Seq.p rfl Ev.pickF ?_
      exact Seq.nil ⟨rfl, (by repeat (first | with_reducible exact Off.refl | refine Off.upd ?_ rfl | exact Off.mix | refine Off.mix2 ?_ rfl)), Look.here⟩
    apply Exists.intro
    refine ⟨fun h62 => ?_, fun u67 => ?_⟩
    · try simp only [decide_eq_true_eq, decide_eq_false_iff_not, Bool.and_eq_true, Bool.or_eq_true, Bool.not_eq_true', Bool.not_eq_false', Bool.or_eq_false_iff, Bool.and_eq_false_imp] at h62
      refine Seq.gy rfl rfl rfl ?_
      refine Seq.p rfl (Ev.faB fd.api_Frame_1) ?_
      refine Seq.gy rfl rfl rfl ?_
      refine Seq.p rfl (Ev.ldBPN [_, _, _, _, _, _, _] ag.a7_uint64) ?_
      refine Seq.gy rfl rfl rfl ?_
      refine Seq.p rfl (Ev.buildArrN [_, _, _, _, _, _, _] ar.a7_uint64 z.a7_uint64) ?_
      refine Seq.gy rfl rfl rfl ?_
      refine Seq.p rfl (Ev.eqAg so.a7_uint64 ag.a7_uint64 gd.a7_uint64) ?_
      refine Seq.p rfl Ev.pickT ?_
      exact Seq.nil ⟨rfl, (by repeat (first | with_reducible exact Off.refl | refine Off.upd ?_ rfl | exact Off.mix | refine Off.mix2 ?_ rfl)), Look.here⟩
    refine Seq.p rfl Ev.move ?_
    refine Seq.andG (D := [68, 69, 70, 71]) (d := 68) (t := 71) (k := 3) (hn := fun h68 => ?_) (hx := ?_)
    · repeat (first | refine Seq.gn rfl rfl rfl rfl ?_ | refine Seq.gu rfl rfl rfl ?_)
      refine Seq.p rfl Ev.pickF ?_
      exact Seq.nil ⟨rfl, (by repeat (first | with_reducible exact Off.refl | refine Off.upd ?_ rfl | exact Off.mix | refine Off.mix2 ?_ rfl)), Look.here⟩
    apply Exists.intro
    refine ⟨fun h68 => ?_, fun u71 => ?_⟩
    · try simp only [decide_eq_true_eq, decide_eq_false_iff_not, Bool.and_eq_true, Bool.or_eq_true, Bool.not_eq_true', Bool.not_eq_false', Bool.or_eq_false_iff, Bool.and_eq_false_imp] at h68
      refine Seq.gy rfl rfl rfl ?_
      refine Seq.p rfl Ev.move ?_
      refine Seq.gy rfl rfl rfl ?_
      refine Seq.p rfl Ev.eq ?_
      refine Seq.p rfl Ev.pickT ?_
      exact Seq.nil ⟨rfl, (by repeat (first | with_reducible exact Off.refl | refine Off.upd ?_ rfl | exact Off.mix | refine Off.mix2 ?_ rfl)), Look.here⟩
    refine Seq.p rfl Ev.move ?_
    refine Seq.andG (D := [72, 73, 74, 75]) (d := 72) (t := 75) (k := 3) (hn := fun h72 => ?_) (hx := ?_)
    · repeat (first | refine Seq.gn rfl rfl rfl rfl ?_ | refine Seq.gu rfl rfl rfl ?_)
      refine Seq.p rfl Ev.pickF ?_
      exact Seq.nil ⟨rfl, (by repeat (first | with_reducible exact Off.refl | refine Off.upd ?_ rfl | exact Off.mix | refine Off.mix2 ?_ rfl)), Look.here⟩
    apply Exists.intro
    refine ⟨fun h72 => ?_, fun u75 => ?_⟩
    · try simp only [decide_eq_true_eq, decide_eq_false_iff_not, Bool.and_eq_true, Bool.or_eq_true, Bool.not_eq_true', Bool.not_eq_false', Bool.or_eq_false_iff, Bool.and_eq_false_imp] at h72
      refine Seq.gy rfl rfl rfl ?_
      refine Seq.p rfl Ev.move ?_
      refine Seq.gy rfl rfl rfl ?_
      refine Seq.p rfl Ev.eq ?_
      refine Seq.p rfl Ev.pickT ?_
      exact Seq.nil ⟨rfl, (by repeat (first | with_reducible exact Off.refl | refine Off.upd ?_ rfl | exact Off.mix | refine Off.mix2 ?_ rfl)), Look.here⟩
    refine Seq.p rfl Ev.assign ?_
    refine Seq.nil ?_
    refine JC.ret ?_
    -- return 0
    show retQ _ _ _ _ _ _ _ _
    refine ret1 (hp := Part.nil _) (hpost := ?_)
    rfl
end Go.Rx
/- The law bourselaw04.MessageEdges gives true. -/
namespace Go.Rx
open Go Go.RowKit Go.Lib Go.Proofs.YthpejgmkiomfhaaDoor
set_option linter.unusedVariables false
set_option linter.unusedSimpArgs false
def Input.cmd (i : Input) : List Value := [.int .i64 i.ckind, .int .u64 i.id, .int .u64 i.target, .int .u32 i.member, .int .i64 i.side, .int .i64 i.type, .int .i64 i.price, .int .u64 i.qty, .int .u64 i.peak]
def atF (i : Input) (f n : Int) : Input := if f % 3 = 0 then { i with side := n } else if f % 3 = 1 then { i with type := n } else { i with price := n }
set_option maxHeartbeats 1000000 in
set_option maxRecDepth 100000 in
theorem lawAt {w : World} {i : Input} {f n : Int} (hf : 0 ≤ f) : Spec Go.Proofs.Tryd.prog 13 #[.agg i.cmd.toArray, .int .i64 f, .int .i64 n] w [] (fun u _ => u = .agg (atF i f n).cmd.toArray) := by
  refine Spec.enter (fn := Go.Proofs.Tryd.f13) (n := 20) [.agg i.cmd.toArray, .int .i64 f, .int .i64 n] Go.Proofs.Tryd.func13 (by kernel_rfl) rfl Go.Proofs.Tryd.ntmps13 Go.Proofs.Tryd.results13 rfl (Own.nil _) ?_
  refine JC.rs ?_
  refine Seq.box (cs := [_, _, _, _, _, _, _, _, _]) (k := ?_); intro b3
  refine Seq.alloc (cs := [_, _, _, _, _, _, _, _, _]) (hz := z.api_Command) (k := ?_); intro b6
  refine Seq.nil ?_
  refine JC.seq ?_
  refine JC.rs ?_
  refine Seq.p rfl Ev.move ?_
  refine Seq.p rfl Ev.rem ?_
  refine Seq.nil ?_
  refine JC.blk ?_
  refine JC.rs ?_
  refine Seq.p rfl Ev.eq ?_
  refine Seq.p rfl Ev.assign ?_
  refine Seq.nil ?_
  first | refine JC.c (ht := fun c11 => ?_) (hf := fun c11 => ?_) | refine JC.cb (ht := fun c11 => ?_) (hf := fun c11 => ?_)
  · -- then_t11
    refine JC.reg ?_
    refine Seq.p rfl Ev.move ?_
    refine Seq.p rfl (Ev.faB fd.api_Command_4) ?_
    refine Seq.storeN [_, _, _, _, _, _, _, _, _] sz.int (k := ?_)
    refine Seq.nil ?_
    refine JC.rs ?_
    refine Seq.p rfl (Ev.ldBA ag.api_Command) ?_
    refine Seq.storeN [_, _, _, _, _, _, _, _, _] sz.api_Command (k := ?_)
    refine Seq.nil ?_
    refine JC.ret ?_
    -- return 0
    show retQ _ _ _ _ _ _ _ _
    refine retB1 ag.api_Command (hp := Part.nil _) (hpost := ?_)
    rw [atF, if_pos c11]
    rfl
  · -- else_t11
    refine JC.rs ?_
    refine Seq.p rfl Ev.eq ?_
    refine Seq.p rfl Ev.assign ?_
    refine Seq.nil ?_
    first | refine JC.c (ht := fun c15 => ?_) (hf := fun c15 => ?_) | refine JC.cb (ht := fun c15 => ?_) (hf := fun c15 => ?_)
    · -- then_t15
      refine JC.reg ?_
      refine Seq.p rfl Ev.move ?_
      refine Seq.p rfl (Ev.faB fd.api_Command_5) ?_
      refine Seq.storeN [_, _, _, _, _, _, _, _, _] sz.int (k := ?_)
      refine Seq.nil ?_
      refine JC.rs ?_
      refine Seq.p rfl (Ev.ldBA ag.api_Command) ?_
      refine Seq.storeN [_, _, _, _, _, _, _, _, _] sz.api_Command (k := ?_)
      refine Seq.nil ?_
      refine JC.ret ?_
      -- return 1
      show retQ _ _ _ _ _ _ _ _
      refine retB1 ag.api_Command (hp := Part.nil _) (hpost := ?_)
      rw [atF, if_neg c11, if_pos c15]
      rfl
    · -- else_t15
      refine JC.reg ?_
      refine Seq.p rfl Ev.move ?_
      refine Seq.p rfl (Ev.faB fd.api_Command_6) ?_
      refine Seq.storeN [_, _, _, _, _, _, _, _, _] sz.int (k := ?_)
      refine Seq.nil ?_
      refine JC.rs ?_
      refine Seq.p rfl (Ev.ldBA ag.api_Command) ?_
      refine Seq.storeN [_, _, _, _, _, _, _, _, _] sz.api_Command (k := ?_)
      refine Seq.nil ?_
      refine JC.ret ?_
      -- return 2
      show retQ _ _ _ _ _ _ _ _
      refine retB1 ag.api_Command (hp := Part.nil _) (hpost := ?_)
      rw [atF, if_neg c11, if_neg c15]
      rfl
/-- An input that is a New with no target. -/
structure NewI (i : Input) : Prop where
  wf : i.Wf
  kind : i.kind = 1
  ckind : i.ckind = 1
  target : i.target = 0
  engine : i.engine = 0
theorem newI_fields {i : Input} (h : NewI i) : fieldsF i = some (1, ⟨#[68]⟩, [wholeF 11 i.id, wholeF 1 (i.member % 18446744073709551616), upToF 54 i.side 255, upToF 40 i.type 255, upToF 44 i.price 4294967295, wholeF 38 i.qty, wholeF 210 i.peak]) := by
  unfold fieldsF
  rw [if_neg (by rw [h.kind]; decide), if_neg (by rw [h.kind]; decide), if_pos h.ckind]
theorem newI_told {i : Input} (h : NewI i) : toldE i = if (0 ≤ i.side ∧ i.side ≤ 255) ∧ (0 ≤ i.type ∧ i.type ≤ 255) ∧ (0 ≤ i.price ∧ i.price ≤ 4294967295) then 0 else 40 := by
  have hw := h.wf
  unfold toldE
  rw [newI_fields h]
  dsimp only
  by_cases hb : (0 ≤ i.side ∧ i.side ≤ 255) ∧ (0 ≤ i.type ∧ i.type ≤ 255) ∧ (0 ≤ i.price ∧ i.price ≤ 4294967295)
  · rw [if_pos hb]
    refine if_pos ⟨?_, ?_⟩
    · simp [wholeF, upToF, hb]
    · have hme := hw.member
      have e1 : s64 (i.side % 18446744073709551616) = i.side := s64_mod hw.side
      have e2 : s64 (i.type % 18446744073709551616) = i.type := s64_mod hw.type
      have e3 : s64 (i.price % 18446744073709551616) = i.price := s64_mod hw.price
      show (⟨1, 1, i.id, 0, i.member % 18446744073709551616 % 4294967296, s64 (i.side % 18446744073709551616), s64 (i.type % 18446744073709551616), s64 (i.price % 18446744073709551616), i.qty, i.peak, 0⟩ : Input) = i
      rw [e1, e2, e3, show i.member % 18446744073709551616 % 4294967296 = i.member by omega]
      have h1 := h.kind; have h2 := h.ckind; have h3 := h.target; have h4 := h.engine
      cases i
      simp only at h1 h2 h3 h4
      subst h1 h2 h3 h4
      rfl
  · rw [if_neg hb]
    refine if_neg (fun hc => hb ?_)
    have h1 := hc.1
    simp [wholeF, upToF] at h1
    omega
theorem newI_at {i : Input} (h : NewI i) (f n : Int) (hn : -9223372036854775808 ≤ n ∧ n ≤ 9223372036854775807) : NewI (atF i f n) := by
  have hw := h.wf
  unfold atF
  split
  · exact ⟨⟨hw.ckind, hw.id, hw.target, hw.member, hn, hw.type, hw.price, hw.qty, hw.peak, hw.engine⟩, h.kind, h.ckind, h.target, h.engine⟩
  · split
    · exact ⟨⟨hw.ckind, hw.id, hw.target, hw.member, hw.side, hn, hw.price, hw.qty, hw.peak, hw.engine⟩, h.kind, h.ckind, h.target, h.engine⟩
    · exact ⟨⟨hw.ckind, hw.id, hw.target, hw.member, hw.side, hw.type, hn, hw.qty, hw.peak, hw.engine⟩, h.kind, h.ckind, h.target, h.engine⟩
def mostF (f : Int) : Int := if f % 3 = 2 then 4294967295 else 255
theorem mostF_range (f : Int) : 255 ≤ mostF f ∧ mostF f ≤ 4294967295 := by
  unfold mostF
  split <;> omega
theorem edge_ok {i : Input} (h : NewI i) (f : Int) (h0 : toldE i = 0) : toldE (atF i f (mostF f)) = 0 ∧ toldE (atF i f (mostF f + 1)) = 40 ∧ toldE (atF i f (-1)) = 40 := by
  have hm := mostF_range f
  rw [newI_told (newI_at h f _ (by omega)), newI_told (newI_at h f _ (by omega)), newI_told (newI_at h f _ (by omega))]
  rw [newI_told h] at h0
  have hb : (0 ≤ i.side ∧ i.side ≤ 255) ∧ (0 ≤ i.type ∧ i.type ≤ 255) ∧ (0 ≤ i.price ∧ i.price ≤ 4294967295) := Classical.not_not.1 fun hn => by rw [if_neg hn] at h0; cases h0
  unfold atF mostF
  by_cases h1 : f % 3 = 0
  · simp only [if_pos h1, if_neg (show ¬ f % 3 = 2 by omega)]
    refine ⟨if_pos (by omega), if_neg (by omega), if_neg (by omega)⟩
  · by_cases h2 : f % 3 = 1
    · simp only [if_neg h1, if_pos h2, if_neg (show ¬ f % 3 = 2 by omega)]
      refine ⟨if_pos (by omega), if_neg (by omega), if_neg (by omega)⟩
    · simp only [if_neg h1, if_neg h2, if_pos (show f % 3 = 2 by omega)]
      refine ⟨if_pos (by omega), if_neg (by omega), if_neg (by omega)⟩
/-- A frame and an answer as Pack hands them back. -/
theorem pack_shape (i : Input) : ∃ k a0 a1 a2 a3 a4 a5 a6, (packF i).1 = ⟨k, [a0, a1, a2, a3, a4, a5, a6]⟩ := by
  obtain ⟨a0, a1, a2, a3, a4, a5, a6, h7⟩ := list7 (packF_len i)
  exact ⟨(packF i).1.kind, a0, a1, a2, a3, a4, a5, a6, by rw [← h7]⟩
theorem packF_two (i : Input) : (packF i).2 = toldE i := by
  unfold packF
  split
  · rename_i h; exact h.symm
  · rfl
set_option maxHeartbeats 4000000 in
set_option maxRecDepth 100000 in
theorem lawEdges {w : World} {i0 : Input} {f : Int} (h : NewI { i0 with ckind := 1, target := 0 }) (hf : -9223372036854775808 ≤ f ∧ f ≤ 9223372036854775807) (hL : Laid w) :
    Spec Go.Proofs.Tryd.prog 4 #[.agg i0.cmd.toArray, .int .i64 f] w [] (fun u _ => u = .bool true) := by
  have hcm : (⟨i0.kind, 1, i0.id, 0, i0.member, i0.side, i0.type, i0.price, i0.qty, i0.peak, i0.engine⟩ : Input).cmd = [.int .i64 1, .int .u64 i0.id, .int .u64 0, .int .u32 i0.member, .int .i64 i0.side, .int .i64 i0.type, .int .i64 i0.price, .int .u64 i0.qty, .int .u64 i0.peak] := rfl
  obtain ⟨i, hi⟩ : ∃ i : Input, i = ⟨i0.kind, 1, i0.id, 0, i0.member, i0.side, i0.type, i0.price, i0.qty, i0.peak, i0.engine⟩ := ⟨_, rfl⟩
  replace h : NewI i := by rw [hi]; exact h
  rw [← hi] at hcm
  have henc : ∀ j : Input, NewI j → .int .i64 1 :: j.cmd ++ [.int .i64 0] = j.enc := fun j hj => by
    have h1 := hj.kind; have h4 := hj.engine
    cases j
    simp only at h1 h4
    subst h1 h4
    rfl
  obtain ⟨m, hm⟩ : ∃ m, m = mostF f := ⟨_, rfl⟩
  have hmr := mostF_range f
  rw [← hm] at hmr
  have hT := newI_at h f m (by omega)
  have hA := newI_at h f (m + 1) (by omega)
  have hB := newI_at h f (-1) (by omega)
  have he := edge_ok h f
  rw [← hm] at he
  have hat : 0 ≤ f → ∀ (n : Int) (X : Input), X = atF i f n → ∀ w' : World, Spec Go.Proofs.Tryd.prog 13 #[.agg [.int .i64 1, .int .u64 i0.id, .int .u64 0, .int .u32 i0.member, .int .i64 i0.side, .int .i64 i0.type, .int .i64 i0.price, .int .u64 i0.qty, .int .u64 i0.peak].toArray, .int .i64 f, .int .i64 n] w' [] (fun u _ => u = .agg X.cmd.toArray) := fun h0 n X hX w' => by
    rw [hX, ← hcm]
    exact lawAt h0
  have ei : i.enc = [.int .i64 1, .int .i64 1, .int .u64 i0.id, .int .u64 0, .int .u32 i0.member, .int .i64 i0.side, .int .i64 i0.type, .int .i64 i0.price, .int .u64 i0.qty, .int .u64 i0.peak, .int .i64 0] := by
    rw [← henc i h, hcm]
    rfl
  have h40 : toldE i = 0 ∨ toldE i = 40 := by
    rw [newI_told h]
    split
    · exact .inl rfl
    · exact .inr rfl
  obtain ⟨T, hTd⟩ : ∃ T, T = atF i f m := ⟨_, rfl⟩
  obtain ⟨A, hAd⟩ : ∃ A, A = atF i f (m + 1) := ⟨_, rfl⟩
  obtain ⟨B, hBd⟩ : ∃ B, B = atF i f (-1) := ⟨_, rfl⟩
  rw [← hTd] at hT he
  rw [← hAd] at hA he
  rw [← hBd] at hB he
  obtain ⟨k1, a0, a1, a2, a3, a4, a5, a6, hp1⟩ := pack_shape i
  obtain ⟨k2, g0, g1, g2, g3, g4, g5, g6, hp2⟩ := pack_shape T
  obtain ⟨k3, d0, d1, d2, d3, d4, d5, d6, hp3⟩ := pack_shape A
  have q1 : packF i = (⟨k1, [a0, a1, a2, a3, a4, a5, a6]⟩, toldE i) := by rw [← hp1, ← packF_two i]
  have q2 : packF T = (⟨k2, [g0, g1, g2, g3, g4, g5, g6]⟩, toldE T) := by rw [← hp2, ← packF_two]
  have q3 : packF A = (⟨k3, [d0, d1, d2, d3, d4, d5, d6]⟩, toldE A) := by rw [← hp3, ← packF_two]
  have hback : toldE T = 0 → unpackF ⟨k2, [g0, g1, g2, g3, g4, g5, g6]⟩ = (T, 0) := fun h0 => by
    have := pack_back hT.wf h0
    rwa [hp2] at this
  have hline : toldE B = 40 → lineF B = (40, []) := fun h0 => by rw [lineF_err (by omega), h0]
  have hBw := hB.wf
  have enT := henc T hT
  have enA := henc A hA
  have enB := henc B hB
  obtain ⟨e1, he1⟩ : ∃ e1, e1 = toldE i := ⟨_, rfl⟩
  rw [← he1] at q1 h40 he
  clear hp1 hp2 hp3 henc hmr h
  refine Spec.enter (fn := Go.Proofs.Tryd.f4) (n := 91) [.agg i0.cmd.toArray, .int .i64 f] Go.Proofs.Tryd.func4 (by kernel_rfl) rfl Go.Proofs.Tryd.ntmps4 Go.Proofs.Tryd.results4 rfl (Own.nil _) ?_
  refine JC.rs ?_
  refine Seq.box (cs := [_, _, _, _, _, _, _, _, _]) (k := ?_); intro b2
  refine Seq.p rfl Ev.assign ?_
  refine Seq.nil ?_
  refine JC.seq ?_
  refine JC.rs ?_
  refine Seq.callP rfl (fun w hw => lawLives (hL.upd hw)) ?_
  refine Seq.p rfl Ev.not ?_
  refine Seq.p rfl Ev.move ?_
  refine Seq.orG (D := [19, 20, 21, 22]) (d := 19) (t := 22) (k := 3) (hn := fun h19 => ?_) (hx := ?_)
  · repeat (first | refine Seq.gn rfl rfl rfl rfl ?_ | refine Seq.gu rfl rfl rfl ?_)
    refine Seq.p rfl Ev.pickT ?_
    exact Seq.nil ⟨rfl, (by repeat (first | with_reducible exact Off.refl | refine Off.upd ?_ rfl | exact Off.mix | refine Off.mix2 ?_ rfl)), Look.here⟩
  apply Exists.intro
  refine ⟨fun h19 => ?_, fun u22 => ?_⟩
  · try simp only [decide_eq_true_eq, decide_eq_false_iff_not, Bool.and_eq_true, Bool.or_eq_true, Bool.not_eq_true', Bool.not_eq_false', Bool.or_eq_false_iff, Bool.and_eq_false_imp] at h19
    refine Seq.gy rfl rfl rfl ?_
    refine Seq.p rfl Ev.move ?_
    refine Seq.gy rfl rfl rfl ?_
    refine Seq.p rfl Ev.lt ?_
    refine Seq.p rfl Ev.pickF ?_
    exact Seq.nil ⟨rfl, (by repeat (first | with_reducible exact Off.refl | refine Off.upd ?_ rfl | exact Off.mix | refine Off.mix2 ?_ rfl)), Look.here⟩
  refine Seq.nil ?_
  first | refine JC.c (ht := fun c22 => ?_) (hf := fun c22 => ?_) | refine JC.cb (ht := fun c22 => ?_) (hf := fun c22 => ?_)
  · -- then_t22
    refine JC.rs ?_
    refine Seq.callP rfl (fun w hw => lawLives (hL.upd hw)) ?_
    refine Seq.p rfl Ev.assign ?_
    refine Seq.nil ?_
    refine JC.ret ?_
    -- return 0
    show retQ _ _ _ _ _ _ _ _
    refine ret1 (hp := Part.nil _) (hpost := ?_)
    rfl
  · -- else_t22
    have hf0 : 0 ≤ f := by
      omega
    have hat1 := hat hf0 m T hTd
    have hat2 := hat hf0 (m + 1) A hAd
    have hat3 := hat hf0 (-1) B hBd
    refine JC.skip ?_
    refine JC.rs ?_
    refine Seq.p rfl (Ev.faB fd.api_Command_0) ?_
    refine Seq.storeN [_, _, _, _, _, _, _, _, _] sz.int (k := ?_)
    refine Seq.nil ?_
    refine JC.rs ?_
    refine Seq.p rfl (Ev.faB fd.api_Command_2) ?_
    refine Seq.storeN [_, _, _, _, _, _, _, _, _] sz.uint64 (k := ?_)
    refine Seq.nil ?_
    refine JC.rs ?_
    refine Seq.p rfl (Ev.ldBA ag.api_Command) ?_
    refine Seq.p rfl (Ev.buildN [.int .i64 1, .int .i64 1, .int .u64 i0.id, .int .u64 0, .int .u32 i0.member, .int .i64 i0.side, .int .i64 i0.type, .int .i64 i0.price, .int .u64 i0.qty, .int .u64 i0.peak, .int .i64 0] pl.api_Input z.api_Input) ?_
    refine Seq.callP rfl (v := .tuple #[.agg [.int .u8 k1, .int .u64 a0, .int .u64 a1, .int .u64 a2, .int .u64 a3, .int .u64 a4, .int .u64 a5, .int .u64 a6].toArray, .int .i64 e1]) (fun w' hw => by have h := msgPack (w := w') (i := i); rw [q1, ei] at h; exact h) ?_
    refine Seq.p rfl Ev.move ?_
    refine Seq.p rfl Ev.extract ?_
    refine Seq.p rfl Ev.extract ?_
    refine Seq.alloc (cs := [_, _, _, _, _, _, _, _]) (hz := z.api_Frame) (k := ?_); intro b5
    refine Seq.storeN [_, _, _, _, _, _, _, _] sz.api_Frame (k := ?_)
    refine Seq.p rfl Ev.assign ?_
    refine Seq.nil ?_
    refine JC.seq ?_
    refine JC.rs ?_
    refine Seq.p rfl Ev.move ?_
    refine Seq.p rfl Ev.ne ?_
    refine Seq.nil ?_
    first | refine JC.c (ht := fun c33 => ?_) (hf := fun c33 => ?_) | refine JC.cb (ht := fun c33 => ?_) (hf := fun c33 => ?_)
    · -- then_t33
      refine JC.rs ?_
      refine Seq.p rfl Ev.move ?_
      refine Seq.p rfl Ev.eq ?_
      refine Seq.p rfl Ev.assign ?_
      refine Seq.nil ?_
      refine JC.ret ?_
      -- return 1
      show retQ _ _ _ _ _ _ _ _
      refine ret1 (hp := Part.nil _) (hpost := ?_)
      have h9 : e1 = 40 := by omega
      simp [h9]
    · -- else_t33
      obtain ⟨t1, t2, t3⟩ := he (by omega)
      rw [t1] at q2
      rw [t2] at q3
      replace hback := hback t1
      replace hline := hline t3
      refine JC.skip ?_
      refine JC.rs ?_
      refine Seq.p rfl Ev.assign ?_
      refine Seq.nil ?_
      refine JC.seq ?_
      refine JC.rs ?_
      refine Seq.p rfl Ev.move ?_
      refine Seq.p rfl Ev.rem ?_
      refine Seq.p rfl Ev.eq ?_
      refine Seq.nil ?_
      first | refine JC.c (ht := fun c38 => ?_) (hf := fun c38 => ?_) | refine JC.cb (ht := fun c38 => ?_) (hf := fun c38 => ?_)
      · -- then_t38
        obtain rfl : m = 4294967295 := by rw [hm, mostF, if_pos c38]
        refine JC.reg ?_
        refine Seq.p rfl Ev.assign ?_
        refine Seq.nil ?_
        refine JC.rs ?_
        refine Seq.p rfl (Ev.ldBA ag.api_Command) ?_
        refine Seq.p rfl Ev.move ?_
        refine Seq.p rfl Ev.move ?_
        refine Seq.callP rfl (fun w' hw => hat1 w') ?_
        refine Seq.p rfl (Ev.as (v' := .agg T.enc.toArray) (by rw [enT]) (Ev.buildN (.int .i64 1 :: T.cmd ++ [.int .i64 0]) pl.api_Input z.api_Input)) ?_
        refine Seq.alloc (cs := [_, _, _, _, _, _, _, _, _, _, _]) (hz := z.api_Input) (k := ?_); intro b8
        refine Seq.storeN [_, _, _, _, _, _, _, _, _, _, _] sz.api_Input (k := ?_)
        refine Seq.nil ?_
        refine JC.rs ?_
        refine Seq.p rfl (Ev.ldBA ag.api_Input) ?_
        refine Seq.callP rfl (v := .tuple #[.agg [.int .u8 k2, .int .u64 g0, .int .u64 g1, .int .u64 g2, .int .u64 g3, .int .u64 g4, .int .u64 g5, .int .u64 g6].toArray, .int .i64 0]) (fun w' hw => by have h := msgPack (w := w') (i := T); rw [q2] at h; exact h) ?_
        refine Seq.p rfl Ev.move ?_
        refine Seq.p rfl Ev.extract ?_
        refine Seq.p rfl Ev.extract ?_
        refine Seq.alloc (cs := [_, _, _, _, _, _, _, _]) (hz := z.api_Frame) (k := ?_); intro b9
        refine Seq.storeN [_, _, _, _, _, _, _, _] sz.api_Frame (k := ?_)
        refine Seq.p rfl Ev.assign ?_
        refine Seq.nil ?_
        refine JC.rs ?_
        refine Seq.p rfl (Ev.ldBA ag.api_Frame) ?_
        refine Seq.callP rfl (v := .tuple #[.agg T.enc.toArray, .int .i64 0]) (fun w' hw => by have h := msgUnpack (w := w') (k := k2) (g0 := g0) (g1 := g1) (g2 := g2) (g3 := g3) (g4 := g4) (g5 := g5) (g6 := g6); rw [hback] at h; exact h) ?_
        refine Seq.p rfl Ev.move ?_
        refine Seq.p rfl Ev.extract ?_
        refine Seq.p rfl Ev.extract ?_
        refine Seq.alloc (cs := [_, _, _, _, _, _, _, _, _, _, _]) (hz := z.api_Input) (k := ?_); intro b11
        refine Seq.storeN [_, _, _, _, _, _, _, _, _, _, _] sz.api_Input (k := ?_)
        refine Seq.p rfl Ev.assign ?_
        refine Seq.nil ?_
        refine JC.rs ?_
        refine Seq.p rfl (Ev.ldBA ag.api_Command) ?_
        refine Seq.p rfl Ev.move ?_
        refine Seq.p rfl Ev.move ?_
        refine Seq.p rfl (by first | exact Ev.inc | exact Ev.add) ?_
        refine Seq.callP rfl (fun w' hw => hat2 w') ?_
        refine Seq.p rfl (Ev.as (v' := .agg A.enc.toArray) (by rw [enA]) (Ev.buildN (.int .i64 1 :: A.cmd ++ [.int .i64 0]) pl.api_Input z.api_Input)) ?_
        refine Seq.callP rfl (v := .tuple #[.agg [.int .u8 k3, .int .u64 d0, .int .u64 d1, .int .u64 d2, .int .u64 d3, .int .u64 d4, .int .u64 d5, .int .u64 d6].toArray, .int .i64 40]) (fun w' hw => by have h := msgPack (w := w') (i := A); rw [q3] at h; exact h) ?_
        refine Seq.p rfl Ev.move ?_
        refine Seq.p rfl Ev.extract ?_
        refine Seq.p rfl Ev.extract ?_
        refine Seq.alloc (cs := [_, _, _, _, _, _, _, _]) (hz := z.api_Frame) (k := ?_); intro b13
        refine Seq.storeN [_, _, _, _, _, _, _, _] sz.api_Frame (k := ?_)
        refine Seq.p rfl Ev.assign ?_
        refine Seq.nil ?_
        refine JC.rs ?_
        refine Seq.p rfl (Ev.ldBA ag.api_Command) ?_
        refine Seq.p rfl Ev.move ?_
        refine Seq.callP rfl (fun w' hw => hat3 w') ?_
        refine Seq.p rfl (Ev.as (v' := .agg B.enc.toArray) (by rw [enB]) (Ev.buildN (.int .i64 1 :: B.cmd ++ [.int .i64 0]) pl.api_Input z.api_Input)) ?_
        refine Seq.call rfl (fun w' hw => by have h := msgLine (w := w') hBw (hL.t.upd hw); rw [hline] at h; exact h) (F := _) (by exact List.Perm.refl _) ?_
        rintro _ _ ⟨A69, c69, rfl, rfl⟩
        simp only [List.cons_append, List.nil_append]
        refine Seq.p rfl Ev.move ?_
        refine Seq.p rfl Ev.extract ?_
        refine Seq.p rfl Ev.extract ?_
        refine Seq.p rfl Ev.assign ?_
        refine Seq.p rfl Ev.assign ?_
        refine Seq.nil ?_
        refine JC.rs ?_
        refine Seq.p rfl Ev.move ?_
        refine Seq.p rfl Ev.eq ?_
        refine Seq.p rfl Ev.move ?_
        refine Seq.andG (D := [74, 75, 76, 77]) (d := 74) (t := 77) (k := 3) (hn := fun h74 => ?_) (hx := ?_)
        · repeat (first | refine Seq.gn rfl rfl rfl rfl ?_ | refine Seq.gu rfl rfl rfl ?_)
          refine Seq.p rfl Ev.pickF ?_
          exact Seq.nil ⟨rfl, (by repeat (first | with_reducible exact Off.refl | refine Off.upd ?_ rfl | exact Off.mix | refine Off.mix2 ?_ rfl)), Look.here⟩
        apply Exists.intro
        refine ⟨fun h74 => ?_, fun u77 => ?_⟩
        · try simp only [decide_eq_true_eq, decide_eq_false_iff_not, Bool.and_eq_true, Bool.or_eq_true, Bool.not_eq_true', Bool.not_eq_false', Bool.or_eq_false_iff, Bool.and_eq_false_imp] at h74
          refine Seq.gy rfl rfl rfl ?_
          refine Seq.p rfl Ev.move ?_
          refine Seq.gy rfl rfl rfl ?_
          refine Seq.p rfl Ev.eq ?_
          refine Seq.p rfl Ev.pickT ?_
          exact Seq.nil ⟨rfl, (by repeat (first | with_reducible exact Off.refl | refine Off.upd ?_ rfl | exact Off.mix | refine Off.mix2 ?_ rfl)), Look.here⟩
        refine Seq.p rfl Ev.move ?_
        refine Seq.andG (D := [78, 79, 80, 81, 82]) (d := 78) (t := 82) (k := 4) (hn := fun h78 => ?_) (hx := ?_)
        · repeat (first | refine Seq.gn rfl rfl rfl rfl ?_ | refine Seq.gu rfl rfl rfl ?_)
          refine Seq.p rfl Ev.pickF ?_
          exact Seq.nil ⟨rfl, (by repeat (first | with_reducible exact Off.refl | refine Off.upd ?_ rfl | exact Off.mix | refine Off.mix2 ?_ rfl)), Look.here⟩
        apply Exists.intro
        refine ⟨fun h78 => ?_, fun u82 => ?_⟩
        · try simp only [decide_eq_true_eq, decide_eq_false_iff_not, Bool.and_eq_true, Bool.or_eq_true, Bool.not_eq_true', Bool.not_eq_false', Bool.or_eq_false_iff, Bool.and_eq_false_imp] at h78
          refine Seq.gy rfl rfl rfl ?_
          refine Seq.p rfl (Ev.ldBA ag.api_Input) ?_
          refine Seq.gy rfl rfl rfl ?_
          refine Seq.p rfl (Ev.ldBA ag.api_Input) ?_
          refine Seq.gy rfl rfl rfl ?_
          refine Seq.p rfl (Ev.eqAg so.api_Input ag.api_Input gd.api_Input) ?_
          refine Seq.p rfl Ev.pickT ?_
          exact Seq.nil ⟨rfl, (by repeat (first | with_reducible exact Off.refl | refine Off.upd ?_ rfl | exact Off.mix | refine Off.mix2 ?_ rfl)), Look.here⟩
        refine Seq.p rfl Ev.move ?_
        refine Seq.andG (D := [83, 84, 85, 86]) (d := 83) (t := 86) (k := 3) (hn := fun h83 => ?_) (hx := ?_)
        · repeat (first | refine Seq.gn rfl rfl rfl rfl ?_ | refine Seq.gu rfl rfl rfl ?_)
          refine Seq.p rfl Ev.pickF ?_
          exact Seq.nil ⟨rfl, (by repeat (first | with_reducible exact Off.refl | refine Off.upd ?_ rfl | exact Off.mix | refine Off.mix2 ?_ rfl)), Look.here⟩
        apply Exists.intro
        refine ⟨fun h83 => ?_, fun u86 => ?_⟩
        · try simp only [decide_eq_true_eq, decide_eq_false_iff_not, Bool.and_eq_true, Bool.or_eq_true, Bool.not_eq_true', Bool.not_eq_false', Bool.or_eq_false_iff, Bool.and_eq_false_imp] at h83
          refine Seq.gy rfl rfl rfl ?_
          refine Seq.p rfl Ev.move ?_
          refine Seq.gy rfl rfl rfl ?_
          refine Seq.p rfl Ev.eq ?_
          refine Seq.p rfl Ev.pickT ?_
          exact Seq.nil ⟨rfl, (by repeat (first | with_reducible exact Off.refl | refine Off.upd ?_ rfl | exact Off.mix | refine Off.mix2 ?_ rfl)), Look.here⟩
        refine Seq.p rfl Ev.move ?_
        refine Seq.andG (D := [87, 88, 89, 90]) (d := 87) (t := 90) (k := 3) (hn := fun h87 => ?_) (hx := ?_)
        · repeat (first | refine Seq.gn rfl rfl rfl rfl ?_ | refine Seq.gu rfl rfl rfl ?_)
          refine Seq.p rfl Ev.pickF ?_
          exact Seq.nil ⟨rfl, (by repeat (first | with_reducible exact Off.refl | refine Off.upd ?_ rfl | exact Off.mix | refine Off.mix2 ?_ rfl)), Look.here⟩
        apply Exists.intro
        refine ⟨fun h87 => ?_, fun u90 => ?_⟩
        · try simp only [decide_eq_true_eq, decide_eq_false_iff_not, Bool.and_eq_true, Bool.or_eq_true, Bool.not_eq_true', Bool.not_eq_false', Bool.or_eq_false_iff, Bool.and_eq_false_imp] at h87
          refine Seq.gy rfl rfl rfl ?_
          refine Seq.p rfl Ev.move ?_
          refine Seq.gy rfl rfl rfl ?_
          refine Seq.p rfl Ev.eq ?_
          refine Seq.p rfl Ev.pickT ?_
          exact Seq.nil ⟨rfl, (by repeat (first | with_reducible exact Off.refl | refine Off.upd ?_ rfl | exact Off.mix | refine Off.mix2 ?_ rfl)), Look.here⟩
        refine Seq.p rfl Ev.assign ?_
        refine Seq.nil ?_
        refine JC.ret ?_
        -- return 2
        show retQ _ _ _ _ _ _ _ _
        refine ret1 (hp := Part.nil _) (hpost := ?_)
        simp [eqL, eqV]
      · -- else_t38
        obtain rfl : m = 255 := by rw [hm, mostF, if_neg c38]
        refine JC.skip ?_
        refine JC.rs ?_
        refine Seq.p rfl (Ev.ldBA ag.api_Command) ?_
        refine Seq.p rfl Ev.move ?_
        refine Seq.p rfl Ev.move ?_
        refine Seq.callP rfl (fun w' hw => hat1 w') ?_
        refine Seq.p rfl (Ev.as (v' := .agg T.enc.toArray) (by rw [enT]) (Ev.buildN (.int .i64 1 :: T.cmd ++ [.int .i64 0]) pl.api_Input z.api_Input)) ?_
        refine Seq.alloc (cs := [_, _, _, _, _, _, _, _, _, _, _]) (hz := z.api_Input) (k := ?_); intro b8
        refine Seq.storeN [_, _, _, _, _, _, _, _, _, _, _] sz.api_Input (k := ?_)
        refine Seq.nil ?_
        refine JC.rs ?_
        refine Seq.p rfl (Ev.ldBA ag.api_Input) ?_
        refine Seq.callP rfl (v := .tuple #[.agg [.int .u8 k2, .int .u64 g0, .int .u64 g1, .int .u64 g2, .int .u64 g3, .int .u64 g4, .int .u64 g5, .int .u64 g6].toArray, .int .i64 0]) (fun w' hw => by have h := msgPack (w := w') (i := T); rw [q2] at h; exact h) ?_
        refine Seq.p rfl Ev.move ?_
        refine Seq.p rfl Ev.extract ?_
        refine Seq.p rfl Ev.extract ?_
        refine Seq.alloc (cs := [_, _, _, _, _, _, _, _]) (hz := z.api_Frame) (k := ?_); intro b9
        refine Seq.storeN [_, _, _, _, _, _, _, _] sz.api_Frame (k := ?_)
        refine Seq.p rfl Ev.assign ?_
        refine Seq.nil ?_
        refine JC.rs ?_
        refine Seq.p rfl (Ev.ldBA ag.api_Frame) ?_
        refine Seq.callP rfl (v := .tuple #[.agg T.enc.toArray, .int .i64 0]) (fun w' hw => by have h := msgUnpack (w := w') (k := k2) (g0 := g0) (g1 := g1) (g2 := g2) (g3 := g3) (g4 := g4) (g5 := g5) (g6 := g6); rw [hback] at h; exact h) ?_
        refine Seq.p rfl Ev.move ?_
        refine Seq.p rfl Ev.extract ?_
        refine Seq.p rfl Ev.extract ?_
        refine Seq.alloc (cs := [_, _, _, _, _, _, _, _, _, _, _]) (hz := z.api_Input) (k := ?_); intro b11
        refine Seq.storeN [_, _, _, _, _, _, _, _, _, _, _] sz.api_Input (k := ?_)
        refine Seq.p rfl Ev.assign ?_
        refine Seq.nil ?_
        refine JC.rs ?_
        refine Seq.p rfl (Ev.ldBA ag.api_Command) ?_
        refine Seq.p rfl Ev.move ?_
        refine Seq.p rfl Ev.move ?_
        refine Seq.p rfl (by first | exact Ev.inc | exact Ev.add) ?_
        refine Seq.callP rfl (fun w' hw => hat2 w') ?_
        refine Seq.p rfl (Ev.as (v' := .agg A.enc.toArray) (by rw [enA]) (Ev.buildN (.int .i64 1 :: A.cmd ++ [.int .i64 0]) pl.api_Input z.api_Input)) ?_
        refine Seq.callP rfl (v := .tuple #[.agg [.int .u8 k3, .int .u64 d0, .int .u64 d1, .int .u64 d2, .int .u64 d3, .int .u64 d4, .int .u64 d5, .int .u64 d6].toArray, .int .i64 40]) (fun w' hw => by have h := msgPack (w := w') (i := A); rw [q3] at h; exact h) ?_
        refine Seq.p rfl Ev.move ?_
        refine Seq.p rfl Ev.extract ?_
        refine Seq.p rfl Ev.extract ?_
        refine Seq.alloc (cs := [_, _, _, _, _, _, _, _]) (hz := z.api_Frame) (k := ?_); intro b13
        refine Seq.storeN [_, _, _, _, _, _, _, _] sz.api_Frame (k := ?_)
        refine Seq.p rfl Ev.assign ?_
        refine Seq.nil ?_
        refine JC.rs ?_
        refine Seq.p rfl (Ev.ldBA ag.api_Command) ?_
        refine Seq.p rfl Ev.move ?_
        refine Seq.callP rfl (fun w' hw => hat3 w') ?_
        refine Seq.p rfl (Ev.as (v' := .agg B.enc.toArray) (by rw [enB]) (Ev.buildN (.int .i64 1 :: B.cmd ++ [.int .i64 0]) pl.api_Input z.api_Input)) ?_
        refine Seq.call rfl (fun w' hw => by have h := msgLine (w := w') hBw (hL.t.upd hw); rw [hline] at h; exact h) (F := _) (by exact List.Perm.refl _) ?_
        rintro _ _ ⟨A69, c69, rfl, rfl⟩
        simp only [List.cons_append, List.nil_append]
        refine Seq.p rfl Ev.move ?_
        refine Seq.p rfl Ev.extract ?_
        refine Seq.p rfl Ev.extract ?_
        refine Seq.p rfl Ev.assign ?_
        refine Seq.p rfl Ev.assign ?_
        refine Seq.nil ?_
        refine JC.rs ?_
        refine Seq.p rfl Ev.move ?_
        refine Seq.p rfl Ev.eq ?_
        refine Seq.p rfl Ev.move ?_
        refine Seq.andG (D := [74, 75, 76, 77]) (d := 74) (t := 77) (k := 3) (hn := fun h74 => ?_) (hx := ?_)
        · repeat (first | refine Seq.gn rfl rfl rfl rfl ?_ | refine Seq.gu rfl rfl rfl ?_)
          refine Seq.p rfl Ev.pickF ?_
          exact Seq.nil ⟨rfl, (by repeat (first | with_reducible exact Off.refl | refine Off.upd ?_ rfl | exact Off.mix | refine Off.mix2 ?_ rfl)), Look.here⟩
        apply Exists.intro
        refine ⟨fun h74 => ?_, fun u77 => ?_⟩
        · try simp only [decide_eq_true_eq, decide_eq_false_iff_not, Bool.and_eq_true, Bool.or_eq_true, Bool.not_eq_true', Bool.not_eq_false', Bool.or_eq_false_iff, Bool.and_eq_false_imp] at h74
          refine Seq.gy rfl rfl rfl ?_
          refine Seq.p rfl Ev.move ?_
          refine Seq.gy rfl rfl rfl ?_
          refine Seq.p rfl Ev.eq ?_
          refine Seq.p rfl Ev.pickT ?_
          exact Seq.nil ⟨rfl, (by repeat (first | with_reducible exact Off.refl | refine Off.upd ?_ rfl | exact Off.mix | refine Off.mix2 ?_ rfl)), Look.here⟩
        refine Seq.p rfl Ev.move ?_
        refine Seq.andG (D := [78, 79, 80, 81, 82]) (d := 78) (t := 82) (k := 4) (hn := fun h78 => ?_) (hx := ?_)
        · repeat (first | refine Seq.gn rfl rfl rfl rfl ?_ | refine Seq.gu rfl rfl rfl ?_)
          refine Seq.p rfl Ev.pickF ?_
          exact Seq.nil ⟨rfl, (by repeat (first | with_reducible exact Off.refl | refine Off.upd ?_ rfl | exact Off.mix | refine Off.mix2 ?_ rfl)), Look.here⟩
        apply Exists.intro
        refine ⟨fun h78 => ?_, fun u82 => ?_⟩
        · try simp only [decide_eq_true_eq, decide_eq_false_iff_not, Bool.and_eq_true, Bool.or_eq_true, Bool.not_eq_true', Bool.not_eq_false', Bool.or_eq_false_iff, Bool.and_eq_false_imp] at h78
          refine Seq.gy rfl rfl rfl ?_
          refine Seq.p rfl (Ev.ldBA ag.api_Input) ?_
          refine Seq.gy rfl rfl rfl ?_
          refine Seq.p rfl (Ev.ldBA ag.api_Input) ?_
          refine Seq.gy rfl rfl rfl ?_
          refine Seq.p rfl (Ev.eqAg so.api_Input ag.api_Input gd.api_Input) ?_
          refine Seq.p rfl Ev.pickT ?_
          exact Seq.nil ⟨rfl, (by repeat (first | with_reducible exact Off.refl | refine Off.upd ?_ rfl | exact Off.mix | refine Off.mix2 ?_ rfl)), Look.here⟩
        refine Seq.p rfl Ev.move ?_
        refine Seq.andG (D := [83, 84, 85, 86]) (d := 83) (t := 86) (k := 3) (hn := fun h83 => ?_) (hx := ?_)
        · repeat (first | refine Seq.gn rfl rfl rfl rfl ?_ | refine Seq.gu rfl rfl rfl ?_)
          refine Seq.p rfl Ev.pickF ?_
          exact Seq.nil ⟨rfl, (by repeat (first | with_reducible exact Off.refl | refine Off.upd ?_ rfl | exact Off.mix | refine Off.mix2 ?_ rfl)), Look.here⟩
        apply Exists.intro
        refine ⟨fun h83 => ?_, fun u86 => ?_⟩
        · try simp only [decide_eq_true_eq, decide_eq_false_iff_not, Bool.and_eq_true, Bool.or_eq_true, Bool.not_eq_true', Bool.not_eq_false', Bool.or_eq_false_iff, Bool.and_eq_false_imp] at h83
          refine Seq.gy rfl rfl rfl ?_
          refine Seq.p rfl Ev.move ?_
          refine Seq.gy rfl rfl rfl ?_
          refine Seq.p rfl Ev.eq ?_
          refine Seq.p rfl Ev.pickT ?_
          exact Seq.nil ⟨rfl, (by repeat (first | with_reducible exact Off.refl | refine Off.upd ?_ rfl | exact Off.mix | refine Off.mix2 ?_ rfl)), Look.here⟩
        refine Seq.p rfl Ev.move ?_
        refine Seq.andG (D := [87, 88, 89, 90]) (d := 87) (t := 90) (k := 3) (hn := fun h87 => ?_) (hx := ?_)
        · repeat (first | refine Seq.gn rfl rfl rfl rfl ?_ | refine Seq.gu rfl rfl rfl ?_)
          refine Seq.p rfl Ev.pickF ?_
          exact Seq.nil ⟨rfl, (by repeat (first | with_reducible exact Off.refl | refine Off.upd ?_ rfl | exact Off.mix | refine Off.mix2 ?_ rfl)), Look.here⟩
        apply Exists.intro
        refine ⟨fun h87 => ?_, fun u90 => ?_⟩
        · try simp only [decide_eq_true_eq, decide_eq_false_iff_not, Bool.and_eq_true, Bool.or_eq_true, Bool.not_eq_true', Bool.not_eq_false', Bool.or_eq_false_iff, Bool.and_eq_false_imp] at h87
          refine Seq.gy rfl rfl rfl ?_
          refine Seq.p rfl Ev.move ?_
          refine Seq.gy rfl rfl rfl ?_
          refine Seq.p rfl Ev.eq ?_
          refine Seq.p rfl Ev.pickT ?_
          exact Seq.nil ⟨rfl, (by repeat (first | with_reducible exact Off.refl | refine Off.upd ?_ rfl | exact Off.mix | refine Off.mix2 ?_ rfl)), Look.here⟩
        refine Seq.p rfl Ev.assign ?_
        refine Seq.nil ?_
        refine JC.ret ?_
        -- return 3
        show retQ _ _ _ _ _ _ _ _
        refine ret1 (hp := Part.nil _) (hpost := ?_)
        simp [eqL, eqV]
end Go.Rx
/- A frame's bytes: wire.Pack. -/
namespace Go.Rx
open Go Go.RowKit
set_option linter.unusedVariables false
set_option linter.unusedSimpArgs false
/-- Byte number m of words, eight bytes each, the lowest first. -/
def wByte (ws : List Int) (m : Nat) : Int := ws[m / 8]! / 2 ^ (8 * (m % 8)) % 256
def uB (l : List Int) : List Value := l.map (Value.int .u8)
theorem uB_flat (l : List Int) : uB l = l.flatMap byteEnc := (bytesMap l).symm
theorem uB_set (l : List Int) (i : Nat) (x : Int) (h : i < l.length) : (uB l).take i ++ [.int .u8 x] ++ (uB l).drop (i + 1) = uB (l.set i x) := by
  unfold uB
  rw [List.map_set, List.set_eq_take_append_cons_drop, if_pos (by rw [List.length_map]; exact h)]
  simp
theorem uB_len (l : List Int) : (uB l).length = l.length := List.length_map ..
/-- The bytes while they are laid: m of them stand. -/
def layB (k : Int) (ws : List Int) (m : Nat) : List Int := [66, 70, k, 0] ++ (List.range m).map (wByte ws) ++ List.replicate (60 - m) 0
theorem layB_len (k : Int) (ws : List Int) (m : Nat) (h : m ≤ 60) : (layB k ws m).length = 64 := by simp [layB]; omega
theorem layB_step (k : Int) (ws : List Int) (m : Nat) (h : m < 56) : (layB k ws m).set (4 + m) (wByte ws m) = layB k ws (m + 1) := by
  unfold layB
  have h1 : ([66, 70, k, 0] ++ (List.range m).map (wByte ws)).length = 4 + m := by simp; omega
  have h2 : List.replicate (60 - m) (0 : Int) = 0 :: List.replicate (60 - (m + 1)) 0 := by
    rw [show 60 - m = (60 - (m + 1)) + 1 by omega, List.replicate_succ]
  rw [List.set_append_right _ _ (by omega), h1, Nat.sub_self, h2, List.set_cons_zero, List.range_succ, List.map_append]
  simp
def laidB (k : Int) (ws : List Int) : List Int := [66, 70, k, 0] ++ (List.range 56).map (wByte ws)
theorem laidB_len (k : Int) (ws : List Int) : (laidB k ws).length = 60 := by simp [laidB]
def sByte (s : Int) (j : Nat) : Int := s / 2 ^ (8 * j) % 256
def sumW (k : Int) (ws : List Int) : Int := sumF (laidB k ws)
def endB (k : Int) (ws : List Int) (j : Nat) : List Int := laidB k ws ++ (List.range j).map (sByte (sumW k ws)) ++ List.replicate (4 - j) 0
def wireB (k : Int) (ws : List Int) : List Int := laidB k ws ++ (List.range 4).map (sByte (sumW k ws))
theorem endB_len (k : Int) (ws : List Int) (j : Nat) (h : j ≤ 4) : (endB k ws j).length = 64 := by
  have := laidB_len k ws
  simp [endB]
  omega
theorem endB_step (k : Int) (ws : List Int) (j : Nat) (h : j < 4) : (endB k ws j).set (60 + j) (sByte (sumW k ws) j) = endB k ws (j + 1) := by
  unfold endB
  have h0 := laidB_len k ws
  have h1 : (laidB k ws ++ (List.range j).map (sByte (sumW k ws))).length = 60 + j := by simp; omega
  have h2 : List.replicate (4 - j) (0 : Int) = 0 :: List.replicate (4 - (j + 1)) 0 := by
    rw [show 4 - j = (4 - (j + 1)) + 1 by omega, List.replicate_succ]
  rw [List.set_append_right _ _ (by omega), h1, Nat.sub_self, h2, List.set_cons_zero, List.range_succ, List.map_append]
  simp
theorem layB_end (k : Int) (ws : List Int) : layB k ws 56 = endB k ws 0 := by
  unfold layB endB laidB
  simp
theorem endB_all (k : Int) (ws : List Int) : endB k ws 4 = wireB k ws := by
  unfold endB wireB
  simp
theorem layB_take (k : Int) (ws : List Int) : (endB k ws 0).take 60 = laidB k ws := by
  unfold endB
  rw [List.append_assoc]
  have := laidB_len k ws
  exact List.take_left' this
theorem sumW_range (k : Int) (ws : List Int) : 0 ≤ sumW k ws ∧ sumW k ws ≤ 4294967295 := xor32_range _ _
theorem wireB_len (k : Int) (ws : List Int) : (wireB k ws).length = 64 := by rw [← endB_all]; exact endB_len k ws 4 (by omega)
theorem uB_one (l : List Int) : ((uB l).all fun u => u.oneCell') = true := by
  unfold uB
  rw [List.all_map]
  exact List.all_eq_true.2 (fun x _ => rfl)
theorem wByte_at {ws : List Int} {i j : Nat} (hj : j < 8) : wByte ws (8 * i + j) = ws[i]! / 2 ^ (8 * j) % 256 := by
  unfold wByte
  rw [show (8 * i + j) / 8 = i by omega, show (8 * i + j) % 8 = j by omega]
theorem endB_pre {k : Int} {ws : List Int} {q : Nat} {u : Value} (h : ((laidB k ws).flatMap byteEnc)[q]? = some u) : (uB (endB k ws 0))[q]? = some u := by
  rw [← uB_flat] at h
  have hlt := (List.getElem?_eq_some_iff.1 h).1
  unfold uB at h hlt ⊢
  unfold endB
  rw [List.map_append, List.map_append, List.append_assoc, List.getElem?_append_left hlt]
  exact h
set_option maxHeartbeats 2000000 in
set_option maxRecDepth 100000 in
theorem wirePack {w : World} {k g0 g1 g2 g3 g4 g5 g6 : Int} : Spec Go.Proofs.Tryd.prog 15 #[.agg (frV k g0 g1 g2 g3 g4 g5 g6).toArray] w [] (fun u _ => u = .agg (uB (wireB k [g0, g1, g2, g3, g4, g5, g6])).toArray) := by
  obtain ⟨ws, hws⟩ : ∃ ws, ws = [g0, g1, g2, g3, g4, g5, g6] := ⟨_, rfl⟩
  have hwl : ws.length = 7 := by rw [hws]; rfl
  have hfr : (frV k g0 g1 g2 g3 g4 g5 g6).drop 1 = ws.map (Value.int .u64) := by rw [hws]; rfl
  have hcg : ∀ i : Nat, i < 7 → (ws.map (Value.int .u64))[i]? = some (.int .u64 ws[i]!) := fun i hi => by
    rw [List.getElem?_map, List.getElem?_eq_getElem (by omega), getElem!_pos ws i (by omega)]
    rfl
  have hz : (List.replicate 64 (Value.int .u8 0)) = uB (List.replicate 64 0) := by rfl
  have h0 : layB k ws 0 = [66, 70, k, 0] ++ List.replicate 60 0 := rfl
  rw [← hws]
  refine Spec.enter (fn := Go.Proofs.Tryd.f15) (n := 49) [.agg (frV k g0 g1 g2 g3 g4 g5 g6).toArray] Go.Proofs.Tryd.func15 (by kernel_rfl) rfl Go.Proofs.Tryd.ntmps15 Go.Proofs.Tryd.results15 rfl (Own.nil _) ?_
  refine JC.rs ?_
  refine Seq.box (cs := [_, _, _, _, _, _, _, _]) (k := ?_); intro b1
  refine Seq.alloc (cs := [_, _, _, _, _, _, _, _, _, _, _, _, _, _, _, _, _, _, _, _, _, _, _, _, _, _, _, _, _, _, _, _, _, _, _, _, _, _, _, _, _, _, _, _, _, _, _, _, _, _, _, _, _, _, _, _, _, _, _, _, _, _, _, _]) (hz := z.a64_uint8) (k := ?_); intro b2
  refine Seq.nil ?_
  refine JC.rs ?_
  refine Seq.p rfl (Ev.faB fd.api_Frame_0) ?_
  refine Seq.p rfl (Ev.ldB sc.uint8) ?_
  refine Seq.p rfl (Ev.buildArrN (uB (layB k ws 0)) ar.a64_uint8 z.a64_uint8) ?_
  refine Seq.alloc (cs := [_, _, _, _, _, _, _, _, _, _, _, _, _, _, _, _, _, _, _, _, _, _, _, _, _, _, _, _, _, _, _, _, _, _, _, _, _, _, _, _, _, _, _, _, _, _, _, _, _, _, _, _, _, _, _, _, _, _, _, _, _, _, _, _]) (hz := z.a64_uint8) (k := ?_); intro b3
  refine Seq.storeTo (cs' := uB (layB k ws 0)) sz.a64_uint8 (hm := by rfl) (hH := At.z) (hfit := Nat.le_of_ble_eq_true rfl) (hcs := by rfl) (k := ?_)
  refine Seq.nil ?_
  refine JC.seq ?_
  refine JC.rs ?_
  refine Seq.p rfl (Ev.faB fd.api_Frame_1) ?_
  refine Seq.p rfl (Ev.ldBPN (ws.map (Value.int .u64)) ag.a7_uint64 (hn := by rw [hws]; rfl) (hl := by rw [List.length_map]; exact hwl)) ?_
  refine Seq.p rfl Ev.move ?_
  refine Seq.nil ?_
  refine JC.blk ?_
  refine JC.loop (α := Nat) (I := fun i e1 H1 => Has [4, 5, 6, 14, 15, 16, 17, 18, 19, 20, 21, 22, 23, 24, 25, 26, 27, 28, 29, 30, 31, 32, 33] [(14, .int .i64 (i : Int))] _ e1 ∧ H1 = [.box b3 47 (uB (layB k ws (8 * i))), _, _] ∧ i ≤ 7) (μ := fun i => 7 - i) 0 ⟨Has.mk Off.refl (allLook_cons (by repeat (first | exact Look.here | apply Look.there (hne := rfl) | exact Look.const | apply Look.mix rfl | exact Look.arg0 | apply Look.args | exact Look.func)) allLook_nil), rfl, by omega⟩ ?_
  rintro i _ _ ⟨⟨u, rfl⟩, rfl, hi⟩; dsimp only [setL]
  refine JC.rs ?_
  refine Seq.p rfl Ev.lt ?_
  refine Seq.nil ?_
  refine JC.seq ?_
  first | refine JC.c (ht := fun c15 => ?_) (hf := fun c15 => ?_) | refine JC.cb (ht := fun c15 => ?_) (hf := fun c15 => ?_)
  · -- then_t15
    have hi2 : i < 7 := by omega
    refine JC.skip ?_
    refine JC.seq ?_
    refine JC.blk ?_
    refine JC.rs ?_
    refine Seq.p rfl Ev.move ?_
    refine Seq.p rfl (Ev.indexS ar.a7_uint64 sc.uint64 (i := (i : Int)) (v := .int .u64 ws[i]!) (hi := by omega) (hv := by rw [Int.toNat_natCast, Nat.mul_one]; exact hcg i (by omega))) ?_
    refine Seq.p rfl Ev.assign ?_
    refine Seq.p rfl Ev.assign ?_
    refine Seq.nil ?_
    refine JC.rs ?_
    refine Seq.p rfl Ev.move ?_
    refine Seq.nil ?_
    refine JC.blk ?_
    refine JC.loop (α := Nat) (I := fun j e1 H1 => Has [6, 18, 19, 20, 21, 22, 23, 24, 25, 26, 27, 28, 29, 30, 31, 32] [(18, .int .i64 (j : Int))] _ e1 ∧ H1 = [.box b3 47 (uB (layB k ws (8 * i + j))), _, _] ∧ j ≤ 8) (μ := fun j => 8 - j) 0 ⟨Has.mk Off.refl (allLook_cons (by repeat (first | exact Look.here | apply Look.there (hne := rfl) | exact Look.const | apply Look.mix rfl | exact Look.arg0 | apply Look.args | exact Look.func)) allLook_nil), rfl, by omega⟩ ?_
    rintro j _ _ ⟨⟨u, rfl⟩, rfl, hj⟩; dsimp only [setL]
    refine JC.rs ?_
    refine Seq.p rfl Ev.lt ?_
    refine Seq.nil ?_
    refine JC.seq ?_
    first | refine JC.c (ht := fun c19 => ?_) (hf := fun c19 => ?_) | refine JC.cb (ht := fun c19 => ?_) (hf := fun c19 => ?_)
    · -- then_t19
      have hj2 : j < 8 := by omega
      refine JC.skip ?_
      refine JC.seq ?_
      refine JC.blk ?_
      refine JC.rs ?_
      refine Seq.p rfl Ev.move ?_
      refine Seq.p rfl Ev.assign ?_
      refine Seq.nil ?_
      refine JC.reg ?_
      refine Seq.p rfl Ev.move ?_
      refine Seq.p rfl (Ev.mulN (c := 8) (m := i)) ?_
      refine Seq.p rfl (Ev.addN (m := 4) (c := 8 * i)) ?_
      refine Seq.p rfl Ev.move ?_
      refine Seq.p rfl (Ev.addN (m := 4 + 8 * i) (c := j)) ?_
      refine Seq.p rfl Ev.move ?_
      refine Seq.p rfl Ev.move ?_
      refine Seq.p rfl (Ev.mulN (c := 8) (m := j)) ?_
      refine Seq.p rfl (Ev.as (v' := .int .u64 (ws[i]! / 2 ^ (8 * j))) (by rw [Int.toNat_natCast, Nat.min_eq_left (by show 8 * j ≤ 64; omega)]) (Ev.shrW (k := .u64) (a := ws[i]!) (b := ((8 * j : Nat) : Int)))) ?_
      refine Seq.p rfl (Ev.as (v' := .int .u8 (wByte ws (8 * i + j))) (by rw [wByte_at hj2]) (Ev.convU8W it.uint64 it.uint8)) ?_
      refine Seq.p rfl (Ev.iaArrN ar.a64_uint8 (i := 4 + 8 * i + j)) ?_
      refine Seq.storeTo (cs' := uB (layB k ws (8 * i + j + 1))) sz.uint8 (hH := At.z) (hfit := by rw [uB_len, layB_len _ _ _ (by omega)]; show _ + 1 ≤ 64; omega) (hcs := by rw [show 0 + (4 + 8 * i + j) * 1 = 4 + (8 * i + j) by omega]; show (uB (layB k ws (8 * i + j))).take (4 + (8 * i + j)) ++ [.int .u8 (wByte ws (8 * i + j))] ++ (uB (layB k ws (8 * i + j))).drop (4 + (8 * i + j) + 1) = _; rw [uB_set _ _ _ (by rw [layB_len _ _ _ (by omega)]; omega), layB_step _ _ _ (by omega)]) (k := ?_)
      refine Seq.nil ?_
      refine JC.reg ?_
      refine Seq.p rfl (by first | exact Ev.inc | exact Ev.add) ?_
      refine Seq.p rfl Ev.move ?_
      refine Seq.nil ?_
      exact ⟨j + 1, _, Part.refl _, ⟨Has.mk (by repeat (first | refine Off.upd ?_ rfl | exact Off.mix | refine Off.mix2 ?_ rfl | exact Off.refl)) (allLook_cons (by repeat (first | exact Look.here | apply Look.there (hne := rfl) | exact Look.const | apply Look.mix rfl | exact Look.arg0 | apply Look.args | exact Look.func)) allLook_nil), rfl, by omega⟩, by omega⟩
    · -- else_t19
      obtain rfl : j = 8 := by omega
      refine JC.exit ?_ -- 2
      refine JC.reg ?_
      refine Seq.p rfl (by first | exact Ev.inc | exact Ev.add) ?_
      refine Seq.p rfl Ev.move ?_
      refine Seq.nil ?_
      exact ⟨i + 1, _, Part.refl _, ⟨Has.mk (by repeat (first | refine Off.upd ?_ rfl | exact Off.mix | refine Off.mix2 ?_ rfl | exact Off.refl)) (allLook_cons (by repeat (first | exact Look.here | apply Look.there (hne := rfl) | exact Look.const | apply Look.mix rfl | exact Look.arg0 | apply Look.args | exact Look.func)) allLook_nil), rfl, by omega⟩, by omega⟩
  · -- else_t15
    obtain rfl : i = 7 := by omega
    refine JC.re (H' := [.box b3 47 (uB (endB k ws 0)), _, _]) (fun w h => by rw [← layB_end]; exact h) ?_
    refine JC.exit ?_ -- 0
    refine JC.rs ?_
    refine Seq.p rfl (Ev.cutArr (h := 60) ar.a64_uint8) ?_
    refine Seq.callP rfl (fun w hw => wireSum (l := laidB k ws) (RAt.up (RAt.boxPart (enc := byteEnc) (sz := 1) (c := 64) (o := 0) At.z (laidB_len k ws).symm (by decide) (fun q u h => by rw [Nat.zero_add]; exact endB_pre h) (fun _ => rfl) (by rw [laidB_len]; decide)) hw)) ?_
    refine Seq.p rfl Ev.assign ?_
    refine Seq.nil ?_
    refine JC.seq ?_
    refine JC.rs ?_
    refine Seq.p rfl Ev.move ?_
    refine Seq.nil ?_
    refine JC.blk ?_
    refine JC.loop (α := Nat) (I := fun j e1 H1 => Has [8, 36, 37, 38, 39, 40, 41, 42, 43, 44, 45, 46, 47] [(36, .int .i64 (j : Int))] _ e1 ∧ H1 = [.box b3 47 (uB (endB k ws j)), _, _] ∧ j ≤ 4) (μ := fun j => 4 - j) 0 ⟨Has.mk Off.refl (allLook_cons (by repeat (first | exact Look.here | apply Look.there (hne := rfl) | exact Look.const | apply Look.mix rfl | exact Look.arg0 | apply Look.args | exact Look.func)) allLook_nil), rfl, by omega⟩ ?_
    rintro j _ _ ⟨⟨u, rfl⟩, rfl, hj⟩; dsimp only [setL]
    refine JC.rs ?_
    refine Seq.p rfl Ev.lt ?_
    refine Seq.nil ?_
    refine JC.seq ?_
    first | refine JC.c (ht := fun c37 => ?_) (hf := fun c37 => ?_) | refine JC.cb (ht := fun c37 => ?_) (hf := fun c37 => ?_)
    · -- then_t37
      have hj2 : j < 4 := by omega
      refine JC.skip ?_
      refine JC.seq ?_
      refine JC.blk ?_
      refine JC.rs ?_
      refine Seq.p rfl Ev.move ?_
      refine Seq.p rfl Ev.assign ?_
      refine Seq.nil ?_
      refine JC.reg ?_
      refine Seq.p rfl Ev.move ?_
      refine Seq.p rfl (Ev.addN (m := 60) (c := j)) ?_
      refine Seq.p rfl Ev.move ?_
      refine Seq.p rfl Ev.move ?_
      refine Seq.p rfl (Ev.mulN (c := 8) (m := j)) ?_
      refine Seq.p rfl (Ev.as (v' := .int .u32 (sumW k ws / 2 ^ (8 * j))) (by rw [Int.toNat_natCast, Nat.min_eq_left (by show 8 * j ≤ 32; omega)]) (Ev.shrW (k := .u32) (a := sumW k ws) (b := ((8 * j : Nat) : Int)))) ?_
      refine Seq.p rfl (Ev.as (v' := .int .u8 (sByte (sumW k ws) j)) rfl (Ev.convU8W it.uint32 it.uint8)) ?_
      refine Seq.p rfl (Ev.iaArrN ar.a64_uint8 (i := 60 + j)) ?_
      refine Seq.storeTo (cs' := uB (endB k ws (j + 1))) sz.uint8 (hH := At.z) (hfit := by rw [uB_len, endB_len _ _ _ (by omega)]; show _ + 1 ≤ 64; omega) (hcs := by rw [show 0 + (60 + j) * 1 = 60 + j by omega]; show (uB (endB k ws j)).take (60 + j) ++ [.int .u8 (sByte (sumW k ws) j)] ++ (uB (endB k ws j)).drop (60 + j + 1) = _; rw [uB_set _ _ _ (by rw [endB_len _ _ _ (by omega)]; omega), endB_step _ _ _ (by omega)]) (k := ?_)
      refine Seq.nil ?_
      refine JC.reg ?_
      refine Seq.p rfl (by first | exact Ev.inc | exact Ev.add) ?_
      refine Seq.p rfl Ev.move ?_
      refine Seq.nil ?_
      exact ⟨j + 1, _, Part.refl _, ⟨Has.mk (by repeat (first | refine Off.upd ?_ rfl | exact Off.mix | refine Off.mix2 ?_ rfl | exact Off.refl)) (allLook_cons (by repeat (first | exact Look.here | apply Look.there (hne := rfl) | exact Look.const | apply Look.mix rfl | exact Look.arg0 | apply Look.args | exact Look.func)) allLook_nil), rfl, by omega⟩, by omega⟩
    · -- else_t37
      obtain rfl : j = 4 := by omega
      refine JC.exit ?_ -- 4
      refine JC.rs ?_
      refine Seq.p rfl (Ev.ldBA (cs := uB (endB k ws 4)) ag.a64_uint8 (hn := by rw [uB_len, endB_len _ _ _ (by omega)])) ?_
      refine Seq.storeTo (cs' := uB (endB k ws 4)) sz.a64_uint8 (hm := by show (uB (endB k ws 4)).length = 64; rw [uB_len, endB_len _ _ _ (by omega)]) (h1 := uB_one _) (hH := At.s At.z) (hfit := by show 0 + (uB (endB k ws 4)).length ≤ 64; rw [uB_len, endB_len _ _ _ (by omega)]; decide) (hcs := by show [] ++ uB (endB k ws 4) ++ List.drop (0 + (uB (endB k ws 4)).length) (_ : List Value) = _; rw [List.drop_eq_nil_of_le (by show 64 ≤ 0 + (uB (endB k ws 4)).length; rw [uB_len, endB_len _ _ _ (by omega)]; decide)]; simp) (k := ?_)
      refine Seq.nil ?_
      refine JC.ret ?_
      -- return 0
      show retQ _ _ _ _ _ _ _ _
      refine retB1 ag.a64_uint8 (cs := uB (endB k ws 4)) (hm := by rw [uB_len, endB_len _ _ _ (by omega)]) (hp := Part.nil _) (hpost := ?_)
      rw [endB_all]
end Go.Rx
/- A frame's bytes read: wire.Unpack of what wire.Pack told. -/
namespace Go.Rx
open Go Go.RowKit
set_option linter.unusedVariables false
set_option linter.unusedSimpArgs false
def uW (l : List Int) : List Value := l.map (Value.int .u64)
/-- The words while they are read: i whole ones, of the next one j bytes. -/
def decW (ws : List Int) (i j : Nat) : List Int := (ws.take i ++ List.replicate (7 - i) 0).set i (ws[i]! % 2 ^ (8 * j))
theorem decW_len {ws : List Int} (h : ws.length = 7) (i j : Nat) (hi : i ≤ 7) : (decW ws i j).length = 7 := by
  simp [decW, h]; omega
theorem decW_zero {ws : List Int} (h : ws.length = 7) (i : Nat) (hi : i < 7) : decW ws i 0 = ws.take i ++ List.replicate (7 - i) 0 := by
  unfold decW
  have e1 : ws[i]! % 2 ^ (8 * 0) = 0 := by show ws[i]! % 1 = 0; omega
  rw [e1]
  have e2 : (ws.take i).length = i := by rw [List.length_take]; omega
  rw [List.set_append_right _ _ (by omega), e2, Nat.sub_self, show 7 - i = (7 - (i + 1)) + 1 by omega, List.replicate_succ, List.set_cons_zero]
theorem decW_eight {ws : List Int} (h : ws.length = 7) (hr : ∀ x ∈ ws, 0 ≤ x ∧ x ≤ 18446744073709551615) (i : Nat) (hi : i < 7) : decW ws i 8 = ws.take (i + 1) ++ List.replicate (7 - (i + 1)) 0 := by
  unfold decW
  have e2 : (ws.take i).length = i := by rw [List.length_take]; omega
  have h3 := hr ws[i]! (get_memS (by omega))
  have e1 : ws[i]! % 2 ^ (8 * 8) = ws[i]! := Int.emod_eq_of_lt h3.1 (by show ws[i]! < 18446744073709551616; omega)
  rw [e1, List.set_append_right _ _ (by omega), e2, Nat.sub_self, show 7 - i = (7 - (i + 1)) + 1 by omega, List.replicate_succ, List.set_cons_zero]
  rw [List.take_succ_eq_append_getElem (show i < ws.length by omega), List.append_assoc, List.singleton_append, getElem!_pos ws i (by omega)]
theorem decW_get {ws : List Int} (h : ws.length = 7) {i j : Nat} (hi : i < 7) (k : Int) : (Value.int .u8 k :: uW (decW ws i j))[0 + 1 + i * 1]? = some (.int .u64 (ws[i]! % 2 ^ (8 * j))) := by
  rw [show 0 + 1 + i * 1 = i + 1 by omega, List.getElem?_cons_succ, uW, List.getElem?_map]
  have hl := decW_len h i j (by omega)
  unfold decW at hl ⊢
  rw [List.getElem?_set_self (by rw [List.length_set] at hl; omega)]
  rfl
theorem decW_step {ws : List Int} (h : ws.length = 7) {i j : Nat} (hi : i < 7) (k : Int) :
    (Value.int .u8 k :: uW (decW ws i j)).take (0 + 1 + i * 1) ++ [.int .u64 (ws[i]! % 2 ^ (8 * (j + 1)))] ++ (Value.int .u8 k :: uW (decW ws i j)).drop (0 + 1 + i * 1 + 1) = .int .u8 k :: uW (decW ws i (j + 1)) := by
  have hl := decW_len h i j (by omega)
  rw [show 0 + 1 + i * 1 = i + 1 by omega, List.take_succ_cons, List.drop_succ_cons, List.cons_append, List.cons_append]
  congr 1
  have e : decW ws i (j + 1) = (decW ws i j).set i (ws[i]! % 2 ^ (8 * (j + 1))) := by
    unfold decW
    rw [List.set_set]
  rw [e, uW, uW, List.map_set, List.set_eq_take_append_cons_drop, if_pos (by rw [List.length_map]; omega)]
  simp
theorem or_join {a b s : Nat} (ha : a < 2 ^ s) (hb : b * 2 ^ s + 2 ^ s ≤ 18446744073709551616) :
    IntKind.u64.wrap (((BitVec.ofInt IntKind.u64.bits (a : Int) ||| BitVec.ofInt IntKind.u64.bits ((b * 2 ^ s : Nat) : Int)).toNat : Nat) : Int) = ((a + b * 2 ^ s : Nat) : Int) := by
  have e1 : ∀ q : Nat, q < 18446744073709551616 → (BitVec.ofInt IntKind.u64.bits (q : Int)).toNat = q := fun q hq => by
    rw [BitVec.toNat_ofInt]
    have : ((2 ^ IntKind.u64.bits : Nat) : Int) = 18446744073709551616 := rfl
    rw [this, Int.emod_eq_of_lt (by omega) (by omega)]
    omega
  have h2 : b <<< s + a = b <<< s ||| a := Nat.shiftLeft_add_eq_or_of_lt ha b
  rw [Nat.shiftLeft_eq] at h2
  rw [BitVec.toNat_or, e1 a (by omega), e1 (b * 2 ^ s) (by omega), Nat.or_comm, ← h2, wrap_u64 _ (by omega)]
  omega
theorem byte_step {n j : Nat} (hn : n < 18446744073709551616) (hj : j < 8) :
    IntKind.u64.wrap (((BitVec.ofInt IntKind.u64.bits ((n : Int) % 2 ^ (8 * j)) ||| BitVec.ofInt IntKind.u64.bits ((n : Int) / 2 ^ (8 * j) % 256 * 2 ^ (8 * j))).toNat : Nat) : Int) = (n : Int) % 2 ^ (8 * (j + 1)) := by
  have hp : 0 < 2 ^ (8 * j) := Nat.pow_pos (by decide)
  have hb : n / 2 ^ (8 * j) % 256 * 2 ^ (8 * j) + 2 ^ (8 * j) ≤ 18446744073709551616 := by
    have h1 : n / 2 ^ (8 * j) % 256 < 256 := Nat.mod_lt _ (by decide)
    have h2 : (n / 2 ^ (8 * j) % 256 + 1) * 2 ^ (8 * j) ≤ 256 * 2 ^ (8 * j) := Nat.mul_le_mul_right _ (by omega)
    have h3 : 256 * 2 ^ (8 * j) ≤ 18446744073709551616 := by
      have : (2 : Nat) ^ (8 * j) ≤ 2 ^ 56 := Nat.pow_le_pow_right (by decide) (by omega)
      omega
    rw [Nat.add_mul] at h2
    omega
  have h := or_join (a := n % 2 ^ (8 * j)) (b := n / 2 ^ (8 * j) % 256) (s := 8 * j) (Nat.mod_lt _ hp) hb
  have c1 : ((n % 2 ^ (8 * j) : Nat) : Int) = (n : Int) % 2 ^ (8 * j) := by rw [Int.natCast_emod, Int.natCast_pow]; rfl
  have c2 : ((n / 2 ^ (8 * j) % 256 * 2 ^ (8 * j) : Nat) : Int) = (n : Int) / 2 ^ (8 * j) % 256 * 2 ^ (8 * j) := by rw [Int.natCast_mul, Int.natCast_emod, Int.natCast_ediv, Int.natCast_pow]; rfl
  rw [c1, c2] at h
  rw [h]
  have e : n % 2 ^ (8 * (j + 1)) = n % 2 ^ (8 * j) + n / 2 ^ (8 * j) % 256 * 2 ^ (8 * j) := by
    rw [show 8 * (j + 1) = 8 * j + 8 by omega, Nat.pow_add, Nat.mod_mul, Nat.mul_comm (2 ^ (8 * j))]
  rw [← e, Int.natCast_emod, Int.natCast_pow]
  rfl
theorem wireB_get (k : Int) (ws : List Int) {m : Nat} (hm : m < 56) : (wireB k ws)[4 + m]! = wByte ws m := by
  have hl := wireB_len k ws
  rw [getElem!_pos _ _ (by omega)]
  have h1 : (wireB k ws)[4 + m]? = some (wByte ws m) := by
    unfold wireB laidB
    rw [List.append_assoc, List.getElem?_append_right (by simp), List.getElem?_append_left (by simp; omega)]
    simp [hm]
  rw [List.getElem?_eq_getElem (by omega)] at h1
  exact Option.some.inj h1
theorem wByte_range (ws : List Int) (m : Nat) : 0 ≤ wByte ws m ∧ wByte ws m ≤ 255 := by
  unfold wByte
  omega
theorem shl_byte {b : Int} {j : Nat} (hb : 0 ≤ b ∧ b ≤ 255) (hj : j < 8) : IntKind.u64.wrap (b * 2 ^ (Min.min ((8 * j : Nat) : Int).toNat IntKind.u64.bits)) = b * 2 ^ (8 * j) := by
  rw [Int.toNat_natCast, Nat.min_eq_left (by show 8 * j ≤ 64; omega)]
  have h1 : ((2 : Nat) ^ (8 * j) : Nat) ≤ 2 ^ 56 := Nat.pow_le_pow_right (by decide) (by omega)
  obtain ⟨n, rfl⟩ : ∃ n : Nat, b = (n : Int) := ⟨b.toNat, by omega⟩
  have e : (n : Int) * 2 ^ (8 * j) = ((n * 2 ^ (8 * j) : Nat) : Int) := by rw [Int.natCast_mul, Int.natCast_pow]; rfl
  have h2 : n * 2 ^ (8 * j) ≤ 255 * 2 ^ 56 := Nat.mul_le_mul (by omega) h1
  rw [e]
  exact wrap_u64 _ (by omega)
theorem Cells.bytes {w0 : World} {Cs H : List Chunk} {a : Addr} {m c : Nat} {l : List Int} (h : RAt w0 Cs H byteEnc 1 (.slice (some a) m c) l) : Cells w0 Cs H a (uB l) := by
  intro w hw j u hu
  obtain ⟨_, hr⟩ := h w hw
  have hj : j < l.length := by
    have := (List.getElem?_eq_some_iff.1 hu).1
    rwa [uB_len] at this
  have h2 := hr.cell j hj 0 u (by
    rw [uB, List.getElem?_map, List.getElem?_eq_getElem hj] at hu
    rw [getElem!_pos l j hj]
    exact hu)
  have h3 := h2.1
  rw [show j * 1 + 0 = j by omega] at h3
  exact h3
theorem uB_sorts (l : List Int) : areSorts (List.replicate l.length (.int .u8)) (uB l) = true := by
  induction l with
  | nil => rfl
  | cons x l ih => exact Bool.and_eq_true_iff.2 ⟨rfl, ih⟩
theorem uB_refl (l : List Int) : eqL (uB l) (uB l) = true := eqL_refl _ (by
  unfold uB
  rw [List.all_map]
  exact List.all_eq_true.2 (fun x _ => rfl))
set_option maxHeartbeats 4000000 in
set_option maxRecDepth 100000 in
theorem wireUnpack {w : World} {a : Addr} {c : Nat} {k g0 g1 g2 g3 g4 g5 g6 : Int} (hk : 0 ≤ k ∧ k ≤ 255) (hg : ∀ x ∈ [g0, g1, g2, g3, g4, g5, g6], 0 ≤ x ∧ x ≤ 18446744073709551615) (hr : RSl byteEnc 1 w [] (.slice (some a) 64 c) (wireB k [g0, g1, g2, g3, g4, g5, g6])) :
    Spec Go.Proofs.Tryd.prog 16 #[.slice (some a) 64 c] w [] (fun u _ => u = .tuple #[.agg (frV k g0 g1 g2 g3 g4 g5 g6).toArray, .int .i64 0]) := by
  have hwp : ∀ w' : World, Spec Go.Proofs.Tryd.prog 15 #[.agg (frV k g0 g1 g2 g3 g4 g5 g6).toArray] w' [] (fun u _ => u = .agg (uB (wireB k [g0, g1, g2, g3, g4, g5, g6])).toArray) := fun w' => wirePack
  have hfin : frV k g0 g1 g2 g3 g4 g5 g6 = .int .u8 k :: uW ([g0, g1, g2, g3, g4, g5, g6].take 7 ++ List.replicate (7 - 7) 0) := rfl
  obtain ⟨ws, hws⟩ : ∃ ws, ws = [g0, g1, g2, g3, g4, g5, g6] := ⟨_, rfl⟩
  have hwl : ws.length = 7 := by rw [hws]; rfl
  rw [← hws] at hg hr hwp hfin
  have hlen := wireB_len k ws
  have h00 : (wireB k ws)[0]! = 66 := rfl
  have h01 : (wireB k ws)[1]! = 70 := rfl
  have h02 : (wireB k ws)[2]! = k := rfl
  have h03 : (wireB k ws)[3]! = 0 := rfl
  have hwg := fun (m : Nat) (hm : m < 56) => wireB_get k ws hm
  have hsort : areSorts (List.replicate 64 (.int .u8)) (uB (wireB k ws)) = true := by rw [← hlen]; exact uB_sorts _
  obtain ⟨B, hB⟩ : ∃ B, B = wireB k ws := ⟨_, rfl⟩
  rw [← hB] at hr hwp hlen h00 h01 h02 h03 hwg hsort
  rw [hfin]
  refine Spec.enter (fn := Go.Proofs.Tryd.f16) (n := 74) [.slice (some a) 64 c] Go.Proofs.Tryd.func16 (by kernel_rfl) rfl Go.Proofs.Tryd.ntmps16 Go.Proofs.Tryd.results16 rfl (Own.nil _) ?_
  refine JC.rs ?_
  refine Seq.alloc (cs := [_, _, _, _, _, _, _, _]) (hz := z.api_Frame) (k := ?_); intro b2
  refine Seq.p rfl Ev.assign ?_
  refine Seq.nil ?_
  refine JC.seq ?_
  refine JC.blk ?_
  refine JC.rs ?_
  refine Seq.p rfl Ev.move ?_
  refine Seq.p rfl (Ev.lenH sl.sl_uint8) ?_
  refine Seq.p rfl Ev.lt ?_
  refine Seq.p rfl Ev.assign ?_
  refine Seq.nil ?_
  first | refine JC.c (ht := fun c7 => ?_) (hf := fun c7 => ?_) | refine JC.cb (ht := fun c7 => ?_) (hf := fun c7 => ?_)
  · -- then_t7
    exact absurd c7 (by decide)
  · -- else_t7
    refine JC.rs ?_
    refine Seq.p rfl Ev.move ?_
    refine Seq.p rfl (Ev.lenH sl.sl_uint8) ?_
    refine Seq.p rfl Ev.gt ?_
    refine Seq.p rfl Ev.assign ?_
    refine Seq.nil ?_
    first | refine JC.c (ht := fun c12 => ?_) (hf := fun c12 => ?_) | refine JC.cb (ht := fun c12 => ?_) (hf := fun c12 => ?_)
    · -- then_t12
      exact absurd c12 (by decide)
    · -- else_t12
      refine JC.rs ?_
      refine Seq.p rfl Ev.move ?_
      refine Seq.p rfl (Ev.iaN sl.sl_uint8 (i := 0) (hr := hr.r)) ?_
      refine Seq.p rfl (Ev.ldE1 (v := .int .u8 66) sc.uint8 (i := 0) (hr := hr.r) (hv := by rw [h00]; rfl)) ?_
      refine Seq.p rfl Ev.ne ?_
      refine Seq.p rfl Ev.move ?_
      refine Seq.orG (D := [22, 23, 24, 25, 26, 27]) (d := 22) (t := 27) (k := 5) (hn := fun h22 => ?_) (hx := ?_)
      · repeat (first | refine Seq.gn rfl rfl rfl rfl ?_ | refine Seq.gu rfl rfl rfl ?_)
        refine Seq.p rfl Ev.pickT ?_
        exact Seq.nil ⟨rfl, (by repeat (first | with_reducible exact Off.refl | refine Off.upd ?_ rfl | exact Off.mix | refine Off.mix2 ?_ rfl)), Look.here⟩
      apply Exists.intro
      refine ⟨fun h22 => ?_, fun u27 => ?_⟩
      · try simp only [decide_eq_true_eq, decide_eq_false_iff_not, Bool.and_eq_true, Bool.or_eq_true, Bool.not_eq_true', Bool.not_eq_false', Bool.or_eq_false_iff, Bool.and_eq_false_imp] at h22
        refine Seq.gy rfl rfl rfl ?_
        refine Seq.p rfl Ev.move ?_
        refine Seq.gy rfl rfl rfl ?_
        refine Seq.p rfl (Ev.iaN sl.sl_uint8 (i := 1) (hr := hr.r)) ?_
        refine Seq.gy rfl rfl rfl ?_
        refine Seq.p rfl (Ev.ldE1 (v := .int .u8 70) sc.uint8 (i := 1) (hr := hr.r) (hv := by rw [h01]; rfl)) ?_
        refine Seq.gy rfl rfl rfl ?_
        refine Seq.p rfl Ev.ne ?_
        refine Seq.p rfl Ev.pickF ?_
        exact Seq.nil ⟨rfl, (by repeat (first | with_reducible exact Off.refl | refine Off.upd ?_ rfl | exact Off.mix | refine Off.mix2 ?_ rfl)), Look.here⟩
      refine Seq.p rfl Ev.move ?_
      refine Seq.orG (D := [28, 29, 30, 31, 32, 33]) (d := 28) (t := 33) (k := 5) (hn := fun h28 => ?_) (hx := ?_)
      · repeat (first | refine Seq.gn rfl rfl rfl rfl ?_ | refine Seq.gu rfl rfl rfl ?_)
        refine Seq.p rfl Ev.pickT ?_
        exact Seq.nil ⟨rfl, (by repeat (first | with_reducible exact Off.refl | refine Off.upd ?_ rfl | exact Off.mix | refine Off.mix2 ?_ rfl)), Look.here⟩
      apply Exists.intro
      refine ⟨fun h28 => ?_, fun u33 => ?_⟩
      · try simp only [decide_eq_true_eq, decide_eq_false_iff_not, Bool.and_eq_true, Bool.or_eq_true, Bool.not_eq_true', Bool.not_eq_false', Bool.or_eq_false_iff, Bool.and_eq_false_imp] at h28
        refine Seq.gy rfl rfl rfl ?_
        refine Seq.p rfl Ev.move ?_
        refine Seq.gy rfl rfl rfl ?_
        refine Seq.p rfl (Ev.iaN sl.sl_uint8 (i := 3) (hr := hr.r)) ?_
        refine Seq.gy rfl rfl rfl ?_
        refine Seq.p rfl (Ev.ldE1 (v := .int .u8 0) sc.uint8 (i := 3) (hr := hr.r) (hv := by rw [h03]; rfl)) ?_
        refine Seq.gy rfl rfl rfl ?_
        refine Seq.p rfl Ev.ne ?_
        refine Seq.p rfl Ev.pickF ?_
        exact Seq.nil ⟨rfl, (by repeat (first | with_reducible exact Off.refl | refine Off.upd ?_ rfl | exact Off.mix | refine Off.mix2 ?_ rfl)), Look.here⟩
      refine Seq.p rfl Ev.assign ?_
      refine Seq.nil ?_
      first | refine JC.c (ht := fun c17 => ?_) (hf := fun c17 => ?_) | refine JC.cb (ht := fun c17 => ?_) (hf := fun c17 => ?_)
      · -- then_t17
        exact absurd c17 (by decide)
      · -- else_t17
        refine JC.skip ?_
        refine JC.rs ?_
        refine Seq.p rfl Ev.move ?_
        refine Seq.p rfl (Ev.iaN sl.sl_uint8 (i := 2) (hr := hr.r)) ?_
        refine Seq.p rfl (Ev.ldE1 (v := .int .u8 k) sc.uint8 (i := 2) (hr := hr.r) (hv := by rw [h02]; rfl)) ?_
        refine Seq.p rfl (Ev.buildN [_, _, _, _, _, _, _, _] pl.api_Frame z.api_Frame) ?_
        refine Seq.alloc (cs := [_, _, _, _, _, _, _, _]) (hz := z.api_Frame) (k := ?_); intro b4
        refine Seq.storeN [_, _, _, _, _, _, _, _] sz.api_Frame (k := ?_)
        refine Seq.nil ?_
        refine JC.seq ?_
        refine JC.rs ?_
        refine Seq.p rfl Ev.move ?_
        refine Seq.nil ?_
        refine JC.blk ?_
        refine JC.loop (α := Nat) (I := fun i e1 H1 => Has [5, 6, 39, 40, 41, 42, 43, 44, 45, 46, 47, 48, 49, 50, 51, 52, 53, 54, 55, 56, 57, 58, 59, 60, 61, 62, 63, 64, 65] [(39, .int .i64 (i : Int))] _ e1 ∧ H1 = [.box b4 40 (.int .u8 k :: uW (ws.take i ++ List.replicate (7 - i) 0)), _] ∧ i ≤ 7) (μ := fun i => 7 - i) 0 ⟨Has.mk Off.refl (allLook_cons (by repeat (first | exact Look.here | apply Look.there (hne := rfl) | exact Look.const | apply Look.mix rfl | exact Look.arg0 | apply Look.args | exact Look.func)) allLook_nil), rfl, by omega⟩ ?_
        rintro i _ _ ⟨⟨u, rfl⟩, rfl, hi⟩; dsimp only [setL]
        refine JC.rs ?_
        refine Seq.p rfl Ev.lt ?_
        refine Seq.nil ?_
        refine JC.seq ?_
        first | refine JC.c (ht := fun c40 => ?_) (hf := fun c40 => ?_) | refine JC.cb (ht := fun c40 => ?_) (hf := fun c40 => ?_)
        · -- then_t40
          have hi2 : i < 7 := by omega
          obtain ⟨W, hW⟩ : ∃ W : Nat, ws[i]! = (W : Int) := ⟨(ws[i]!).toNat, by have := hg _ (get_memS (xs := ws) (i := i) (by omega)); omega⟩
          have hWr : W < 18446744073709551616 := by have := hg _ (get_memS (xs := ws) (i := i) (by omega)); omega
          refine JC.skip ?_
          refine JC.seq ?_
          refine JC.blk ?_
          refine JC.rs ?_
          refine Seq.p rfl Ev.move ?_
          refine Seq.p rfl Ev.assign ?_
          refine Seq.nil ?_
          refine JC.rs ?_
          refine Seq.p rfl Ev.move ?_
          refine Seq.nil ?_
          refine JC.blk ?_
          refine JC.loop (α := Nat) (I := fun j e1 H1 => Has [6, 42, 43, 44, 45, 46, 47, 48, 49, 50, 51, 52, 53, 54, 55, 56, 57, 58, 59, 60, 61, 62, 63, 64] [(42, .int .i64 (j : Int))] _ e1 ∧ H1 = [.box b4 40 (.int .u8 k :: uW (decW ws i j)), _] ∧ j ≤ 8) (μ := fun j => 8 - j) 0 ⟨Has.mk Off.refl (allLook_cons (by repeat (first | exact Look.here | apply Look.there (hne := rfl) | exact Look.const | apply Look.mix rfl | exact Look.arg0 | apply Look.args | exact Look.func)) allLook_nil), by rw [decW_zero hwl i hi2], by omega⟩ ?_
          rintro j _ _ ⟨⟨u, rfl⟩, rfl, hj⟩; dsimp only [setL]
          refine JC.rs ?_
          refine Seq.p rfl Ev.lt ?_
          refine Seq.nil ?_
          refine JC.seq ?_
          first | refine JC.c (ht := fun c43 => ?_) (hf := fun c43 => ?_) | refine JC.cb (ht := fun c43 => ?_) (hf := fun c43 => ?_)
          · -- then_t43
            have hj2 : j < 8 := by omega
            have hwb := wByte_range ws (8 * i + j)
            refine JC.skip ?_
            refine JC.seq ?_
            refine JC.blk ?_
            refine JC.rs ?_
            refine Seq.p rfl Ev.move ?_
            refine Seq.p rfl Ev.assign ?_
            refine Seq.nil ?_
            refine JC.anyE 0 mixed ?_
            refine Any.p 0 rfl (by kernel_rfl) (by kernel_rfl) (by kernel_rfl) rfl Ev.move ?_
            refine Any.p 1 rfl (by kernel_rfl) (by kernel_rfl) (by kernel_rfl) rfl (Ev.faB fd.api_Frame_1) ?_
            refine Any.p 2 rfl (by kernel_rfl) (by kernel_rfl) (by kernel_rfl) rfl (Ev.iaArrN ar.a7_uint64 (i := i)) ?_
            refine Any.p 4 rfl (by kernel_rfl) (by kernel_rfl) (by kernel_rfl) rfl Ev.move ?_
            refine Any.p 5 rfl (by kernel_rfl) (by kernel_rfl) (by kernel_rfl) rfl Ev.move ?_
            refine Any.p 6 rfl (by kernel_rfl) (by kernel_rfl) (by kernel_rfl) rfl (Ev.mulN (c := 8) (m := i)) ?_
            refine Any.p 7 rfl (by kernel_rfl) (by kernel_rfl) (by kernel_rfl) rfl (Ev.addN (m := 4) (c := 8 * i)) ?_
            refine Any.p 8 rfl (by kernel_rfl) (by kernel_rfl) (by kernel_rfl) rfl Ev.move ?_
            refine Any.p 9 rfl (by kernel_rfl) (by kernel_rfl) (by kernel_rfl) rfl (Ev.addN (m := 4 + 8 * i) (c := j)) ?_
            refine Any.p 10 rfl (by kernel_rfl) (by kernel_rfl) (by kernel_rfl) rfl (Ev.iaN sl.sl_uint8 (i := 4 + 8 * i + j) (hr := hr.r)) ?_
            refine Any.p 11 rfl (by kernel_rfl) (by kernel_rfl) (by kernel_rfl) rfl (Ev.ldE1 (v := .int .u8 (wByte ws (8 * i + j))) sc.uint8 (i := 4 + 8 * i + j) (hr := hr.r) (hv := by rw [show 4 + 8 * i + j = 4 + (8 * i + j) by omega, hwg _ (by omega)]; rfl)) ?_
            refine Any.p 12 rfl (by kernel_rfl) (by kernel_rfl) (by kernel_rfl) rfl (Ev.convU64 it.uint8 it.uint64) ?_
            refine Any.p 13 rfl (by kernel_rfl) (by kernel_rfl) (by kernel_rfl) rfl Ev.move ?_
            refine Any.p 14 rfl (by kernel_rfl) (by kernel_rfl) (by kernel_rfl) rfl (Ev.mulN (c := 8) (m := j)) ?_
            refine Any.p 15 rfl (by kernel_rfl) (by kernel_rfl) (by kernel_rfl) rfl (Ev.shlB (r := wByte ws (8 * i + j) * 2 ^ (8 * j)) (hr := shl_byte hwb hj2)) ?_
            refine Any.p 17 rfl (by kernel_rfl) (by kernel_rfl) (by kernel_rfl) rfl (Ev.faB fd.api_Frame_1) ?_
            refine Any.one 3 rfl (by kernel_rfl) ?_
            refine Seq.p rfl (Ev.ldB sc.uint64 (hv := decW_get hwl hi2 k)) ?_
            refine Seq.nil ⟨(by repeat (first | exact Part.refl _ | exact Part.nil _ | apply Part.here | apply Part.skip)), ?_⟩
            refine Any.p 16 rfl (by kernel_rfl) (by kernel_rfl) (by kernel_rfl) rfl (Ev.as (v' := .int .u64 (ws[i]! % 2 ^ (8 * (j + 1)))) (by rw [wByte_at hj2, hW, byte_step hWr hj2]) (Ev.bits (k := .u64) (a := ws[i]! % 2 ^ (8 * j)) (b := wByte ws (8 * i + j) * 2 ^ (8 * j)) (· ||| ·) (.inr (.inl ⟨rfl, rfl⟩)))) ?_
            refine Any.p 18 rfl (by kernel_rfl) (by kernel_rfl) (by kernel_rfl) rfl (Ev.iaArrN ar.a7_uint64 (i := i)) ?_
            refine Any.one 19 rfl (by kernel_rfl) ?_
            refine Seq.storeTo (cs' := .int .u8 k :: uW (decW ws i (j + 1))) sz.uint64 (hH := At.z) (hfit := by show 0 + 1 + i * 1 + 1 ≤ (uW (decW ws i j)).length + 1; rw [uW, List.length_map, decW_len hwl _ _ (by omega)]; omega) (hcs := decW_step hwl hi2 k) (k := ?_)
            refine Seq.nil ⟨(by repeat (first | exact Part.refl _ | exact Part.nil _ | apply Part.here | apply Part.skip)), ?_⟩
            refine Any.done (by kernel_rfl) ?_
            refine JC.reg ?_
            refine Seq.p rfl (by first | exact Ev.inc | exact Ev.add) ?_
            refine Seq.p rfl Ev.move ?_
            refine Seq.nil ?_
            exact ⟨j + 1, _, Part.refl _, ⟨Has.mk (by repeat (first | refine Off.upd ?_ rfl | exact Off.mix | refine Off.mix2 ?_ rfl | exact Off.refl)) (allLook_cons (by repeat (first | exact Look.here | apply Look.there (hne := rfl) | exact Look.const | apply Look.mix rfl | exact Look.arg0 | apply Look.args | exact Look.func)) allLook_nil), rfl, by omega⟩, by omega⟩
          · -- else_t43
            obtain rfl : j = 8 := by omega
            rw [decW_eight hwl hg i hi2]
            refine JC.exit ?_ -- 3
            refine JC.reg ?_
            refine Seq.p rfl (by first | exact Ev.inc | exact Ev.add) ?_
            refine Seq.p rfl Ev.move ?_
            refine Seq.nil ?_
            exact ⟨i + 1, _, Part.refl _, ⟨Has.mk (by repeat (first | refine Off.upd ?_ rfl | exact Off.mix | refine Off.mix2 ?_ rfl | exact Off.refl)) (allLook_cons (by repeat (first | exact Look.here | apply Look.there (hne := rfl) | exact Look.const | apply Look.mix rfl | exact Look.arg0 | apply Look.args | exact Look.func)) allLook_nil), rfl, by omega⟩, by omega⟩
        · -- else_t40
          obtain rfl : i = 7 := by omega
          rw [← hfin]
          refine JC.exit ?_ -- 1
          refine JC.seq ?_
          refine JC.qs mixed (by kernel_rfl) ?_
          refine Qui.p rfl (Ev.ldBA (cs := frV k g0 g1 g2 g3 g4 g5 g6) ag.api_Frame) ?_
          refine Qui.call rfl (fun w hw => hwp _) ?_
          refine Qui.p rfl Ev.move ?_
          refine Qui.p rfl (Ev.arrP ar.a64_uint8) ?_
          refine Qui.p rfl (Ev.ldA (cs := uB B) ag.a64_uint8 (Cells.bytes hr.r) (hn := by rw [uB_len]; exact hlen)) ?_
          refine Qui.p rfl (Ev.neAg (xs := uB B) (ys := uB B) (l := List.replicate 64 (.int .u8)) so.a64_uint8 ag.a64_uint8 gd.a64_uint8 (sx := hsort) (sy := hsort)) ?_
          refine Qui.nil ?_
          first | refine JC.c (ht := fun c71 => ?_) (hf := fun c71 => ?_) | refine JC.cb (ht := fun c71 => ?_) (hf := fun c71 => ?_)
          · -- then_t71
            rw [uB_refl] at c71
            cases c71
          · -- else_t71
            refine JC.skip ?_
            refine JC.rs ?_
            refine Seq.p rfl (Ev.ldBA ag.api_Frame) ?_
            refine Seq.storeN [_, _, _, _, _, _, _, _] sz.api_Frame (k := ?_)
            refine Seq.p rfl Ev.assign ?_
            refine Seq.nil ?_
            refine JC.ret ?_
            -- return 0
            show retQ _ _ _ _ _ _ _ _
            refine retB2 ag.api_Frame (hp := Part.nil _) (hpost := ?_)
            rfl
end Go.Rx
/- The law bourselaw04.MessageBytes gives true. -/
namespace Go.Rx
open Go Go.RowKit Go.Lib Go.Proofs.YthpejgmkiomfhaaDoor
set_option linter.unusedVariables false
set_option linter.unusedSimpArgs false
theorem add64_range' (a b : Int) : 0 ≤ add64 a b ∧ add64 a b ≤ 18446744073709551615 := by unfold add64; omega
/-- The words of a frame that Pack makes are words. -/
theorem packF_range {i : Input} (hw : i.Wf) (h : toldE i = 0) : (0 ≤ (packF i).1.kind ∧ (packF i).1.kind ≤ 255) ∧ ∀ x ∈ (packF i).1.words, 0 ≤ x ∧ x ≤ 18446744073709551615 := by
  obtain ⟨k, s, fs, hF⟩ : ∃ k s fs, fieldsF i = some (k, s, fs) := by
    unfold toldE at h
    cases hF : fieldsF i with
    | none => rw [hF] at h; cases h
    | some p => obtain ⟨k, s, fs⟩ := p; exact ⟨k, s, fs, rfl⟩
  have hP : (packF i).1 = frameF k (numsF fs) := by unfold packF; rw [if_pos h, hF]
  rw [hP]
  have hid := hw.id; have htg := hw.target; have hme := hw.member; have hqt := hw.qty; have hpk := hw.peak
  have z : (0 : Int) ≤ 0 ∧ (0 : Int) ≤ 18446744073709551615 := by decide
  unfold fieldsF at hF
  split at hF
  · simp only [Option.some.injEq, Prod.mk.injEq] at hF
    obtain ⟨rfl, _, rfl⟩ := hF
    refine ⟨by show (0 : Int) ≤ 4 ∧ (4 : Int) ≤ 255; decide, ?_⟩
    show ∀ x ∈ [add64 0 (i.engine % 18446744073709551616), 0, add64 (add64 0 (up 0 32)) (up 0 40), 0, 0, 0, 0], 0 ≤ x ∧ x ≤ 18446744073709551615
    intro x hx
    simp only [List.mem_cons, List.not_mem_nil, or_false] at hx
    rcases hx with rfl | rfl | rfl | rfl | rfl | rfl | rfl <;> first | exact add64_range' _ _ | exact z
  · split at hF
    · cases hF
    · split at hF
      · simp only [Option.some.injEq, Prod.mk.injEq] at hF
        obtain ⟨rfl, _, rfl⟩ := hF
        refine ⟨by show (0 : Int) ≤ 1 ∧ (1 : Int) ≤ 255; decide, ?_⟩
        show ∀ x ∈ [add64 i.id 0, 0, add64 (add64 (i.member % 18446744073709551616) (up (i.side % 18446744073709551616) 32)) (up (i.type % 18446744073709551616) 40), i.price % 18446744073709551616, i.qty, i.peak, 0], 0 ≤ x ∧ x ≤ 18446744073709551615
        intro x hx
        simp only [List.mem_cons, List.not_mem_nil, or_false] at hx
        rcases hx with rfl | rfl | rfl | rfl | rfl | rfl | rfl <;> first | exact add64_range' _ _ | exact z | exact hqt | exact hpk | omega
      · split at hF
        · simp only [Option.some.injEq, Prod.mk.injEq] at hF
          obtain ⟨rfl, _, rfl⟩ := hF
          refine ⟨by show (0 : Int) ≤ 2 ∧ (2 : Int) ≤ 255; decide, ?_⟩
          show ∀ x ∈ [add64 0 0, i.target, add64 (add64 0 (up 0 32)) (up 0 40), 0, 0, 0, 0], 0 ≤ x ∧ x ≤ 18446744073709551615
          intro x hx
          simp only [List.mem_cons, List.not_mem_nil, or_false] at hx
          rcases hx with rfl | rfl | rfl | rfl | rfl | rfl | rfl <;> first | exact add64_range' _ _ | exact z | exact htg
        · split at hF
          · simp only [Option.some.injEq, Prod.mk.injEq] at hF
            obtain ⟨rfl, _, rfl⟩ := hF
            refine ⟨by show (0 : Int) ≤ 3 ∧ (3 : Int) ≤ 255; decide, ?_⟩
            show ∀ x ∈ [add64 i.id 0, i.target, add64 (add64 0 (up 0 32)) (up 0 40), i.price % 18446744073709551616, i.qty, i.peak, 0], 0 ≤ x ∧ x ≤ 18446744073709551615
            intro x hx
            simp only [List.mem_cons, List.not_mem_nil, or_false] at hx
            rcases hx with rfl | rfl | rfl | rfl | rfl | rfl | rfl <;> first | exact add64_range' _ _ | exact z | exact hqt | exact hpk | exact htg | omega
          · cases hF
set_option maxHeartbeats 4000000 in
set_option maxRecDepth 100000 in
theorem lawBytes {w : World} {i : Input} (hi : i.Wf) (hL : Laid w) :
    Spec Go.Proofs.Tryd.prog 5 #[.agg i.enc.toArray] w [] (fun u _ => u = .bool true) := by
  obtain ⟨k, g0, g1, g2, g3, g4, g5, g6, hp⟩ := pack_shape i
  have q : packF i = (⟨k, [g0, g1, g2, g3, g4, g5, g6]⟩, toldE i) := by rw [← hp, ← packF_two i]
  have hrg := packF_range hi
  have hbk := pack_back hi
  have hz : toldE i ≠ 0 → k = 0 ∧ g0 = 0 ∧ g1 = 0 ∧ g2 = 0 ∧ g3 = 0 ∧ g4 = 0 ∧ g5 = 0 ∧ g6 = 0 := fun h => by
    have h1 : packF i = (frame0, toldE i) := by unfold packF; rw [if_neg h]
    rw [q] at h1
    have h2 := congrArg Prod.fst h1
    simp [frame0] at h2
    exact h2
  rw [hp] at hrg hbk
  obtain ⟨e1, he1⟩ : ∃ e1, e1 = toldE i := ⟨_, rfl⟩
  rw [← he1] at q hrg hbk hz
  refine Spec.enter (fn := Go.Proofs.Tryd.f5) (n := 45) [.agg i.enc.toArray] Go.Proofs.Tryd.func5 (by kernel_rfl) rfl Go.Proofs.Tryd.ntmps5 Go.Proofs.Tryd.results5 rfl (Own.nil _) ?_
  refine JC.rs ?_
  refine Seq.box (cs := [_, _, _, _, _, _, _, _, _, _, _]) (k := ?_); intro b1
  refine Seq.p rfl Ev.assign ?_
  refine Seq.nil ?_
  refine JC.seq ?_
  refine JC.rs ?_
  refine Seq.callP rfl (fun w hw => lawLives (hL.upd hw)) ?_
  refine Seq.p rfl Ev.not ?_
  refine Seq.nil ?_
  first | refine JC.c (ht := fun c11 => ?_) (hf := fun c11 => ?_) | refine JC.cb (ht := fun c11 => ?_) (hf := fun c11 => ?_)
  · -- then_t11
    cases c11
  · -- else_t11
    refine JC.skip ?_
    refine JC.rs ?_
    refine Seq.p rfl (Ev.ldBA ag.api_Input) ?_
    refine Seq.callP rfl (v := .tuple #[.agg (frV k g0 g1 g2 g3 g4 g5 g6).toArray, .int .i64 e1]) (fun w' hw => by have h := msgPack (w := w') (i := i); rw [q] at h; exact h) ?_
    refine Seq.p rfl Ev.move ?_
    refine Seq.p rfl Ev.extract ?_
    refine Seq.p rfl Ev.extract ?_
    refine Seq.alloc (cs := [_, _, _, _, _, _, _, _]) (hz := z.api_Frame) (k := ?_); intro b3
    refine Seq.storeN [_, _, _, _, _, _, _, _] sz.api_Frame (k := ?_)
    refine Seq.p rfl Ev.assign ?_
    refine Seq.nil ?_
    refine JC.seq ?_
    refine JC.rs ?_
    refine Seq.p rfl Ev.move ?_
    refine Seq.p rfl Ev.ne ?_
    refine Seq.nil ?_
    first | refine JC.c (ht := fun c18 => ?_) (hf := fun c18 => ?_) | refine JC.cb (ht := fun c18 => ?_) (hf := fun c18 => ?_)
    · -- then_t18
      obtain ⟨rfl, rfl, rfl, rfl, rfl, rfl, rfl, rfl⟩ := hz c18
      refine JC.rs ?_
      refine Seq.p rfl (Ev.ldBA ag.api_Frame) ?_
      refine Seq.p rfl (Ev.buildN [_, _, _, _, _, _, _, _] pl.api_Frame z.api_Frame) ?_
      refine Seq.p rfl (Ev.eqAg so.api_Frame ag.api_Frame gd.api_Frame) ?_
      refine Seq.p rfl Ev.assign ?_
      refine Seq.nil ?_
      refine JC.ret ?_
      -- return 0
      show retQ _ _ _ _ _ _ _ _
      refine ret1 (hp := Part.nil _) (hpost := ?_)
      rfl
    · -- else_t18
      obtain rfl : e1 = 0 := Classical.not_not.1 c18
      have hr1 := (hrg rfl).1
      have hr2 := (hrg rfl).2
      have hb := hbk rfl
      refine JC.skip ?_
      refine JC.rs ?_
      refine Seq.p rfl (Ev.ldBA ag.api_Frame) ?_
      refine Seq.callP rfl (fun w' hw => wirePack) ?_
      refine Seq.alloc (cs := [_, _, _, _, _, _, _, _, _, _, _, _, _, _, _, _, _, _, _, _, _, _, _, _, _, _, _, _, _, _, _, _, _, _, _, _, _, _, _, _, _, _, _, _, _, _, _, _, _, _, _, _, _, _, _, _, _, _, _, _, _, _, _, _]) (hz := z.a64_uint8) (k := ?_); intro b5
      refine Seq.storeTo (v := .agg (uB (wireB k [g0, g1, g2, g3, g4, g5, g6])).toArray) (vs := uB (wireB k [g0, g1, g2, g3, g4, g5, g6])) (cs' := uB (wireB k [g0, g1, g2, g3, g4, g5, g6])) sz.a64_uint8 (hvs := rfl) (hm := by rw [uB_len, wireB_len]) (h1 := uB_one _) (hH := At.z) (hfit := by rw [uB_len, wireB_len]; exact Nat.le_of_ble_eq_true rfl) (hcs := by rw [List.drop_eq_nil_of_le (by rw [uB_len, wireB_len]; exact Nat.le_of_ble_eq_true rfl)]; simp) (k := ?_)
      refine Seq.nil ?_
      refine JC.rs ?_
      refine Seq.p rfl (Ev.cutAll ar.a64_uint8) ?_
      refine Seq.callP rfl (fun w' hw => wireUnpack hr1 hr2 (RAt.up (RAt.box (enc := byteEnc) (hcs := uB_flat _) (hm := (wireB_len k _).symm) (hs := by rw [wireB_len]; decide)) hw)) ?_
      refine Seq.p rfl Ev.move ?_
      refine Seq.p rfl Ev.extract ?_
      refine Seq.p rfl Ev.extract ?_
      refine Seq.alloc (cs := [_, _, _, _, _, _, _, _]) (hz := z.api_Frame) (k := ?_); intro b6
      refine Seq.storeN [_, _, _, _, _, _, _, _] sz.api_Frame (k := ?_)
      refine Seq.p rfl Ev.assign ?_
      refine Seq.nil ?_
      refine JC.rs ?_
      refine Seq.p rfl (Ev.ldBA ag.api_Frame) ?_
      refine Seq.callP rfl (v := .tuple #[.agg i.enc.toArray, .int .i64 0]) (fun w' hw => by have h := msgUnpack (w := w') (k := k) (g0 := g0) (g1 := g1) (g2 := g2) (g3 := g3) (g4 := g4) (g5 := g5) (g6 := g6); rw [hb] at h; exact h) ?_
      refine Seq.p rfl Ev.move ?_
      refine Seq.p rfl Ev.extract ?_
      refine Seq.p rfl Ev.extract ?_
      refine Seq.alloc (cs := [_, _, _, _, _, _, _, _, _, _, _]) (hz := z.api_Input) (k := ?_); intro b8
      refine Seq.storeN [_, _, _, _, _, _, _, _, _, _, _] sz.api_Input (k := ?_)
      refine Seq.p rfl Ev.assign ?_
      refine Seq.nil ?_
      refine JC.rs ?_
      refine Seq.p rfl Ev.move ?_
      refine Seq.p rfl Ev.eq ?_
      refine Seq.p rfl Ev.move ?_
      refine Seq.andG (D := [36, 37, 38, 39]) (d := 36) (t := 39) (k := 3) (hn := fun h36 => ?_) (hx := ?_)
      · repeat (first | refine Seq.gn rfl rfl rfl rfl ?_ | refine Seq.gu rfl rfl rfl ?_)
        refine Seq.p rfl Ev.pickF ?_
        exact Seq.nil ⟨rfl, (by repeat (first | with_reducible exact Off.refl | refine Off.upd ?_ rfl | exact Off.mix | refine Off.mix2 ?_ rfl)), Look.here⟩
      apply Exists.intro
      refine ⟨fun h36 => ?_, fun u39 => ?_⟩
      · try simp only [decide_eq_true_eq, decide_eq_false_iff_not, Bool.and_eq_true, Bool.or_eq_true, Bool.not_eq_true', Bool.not_eq_false', Bool.or_eq_false_iff, Bool.and_eq_false_imp] at h36
        refine Seq.gy rfl rfl rfl ?_
        refine Seq.p rfl Ev.move ?_
        refine Seq.gy rfl rfl rfl ?_
        refine Seq.p rfl Ev.eq ?_
        refine Seq.p rfl Ev.pickT ?_
        exact Seq.nil ⟨rfl, (by repeat (first | with_reducible exact Off.refl | refine Off.upd ?_ rfl | exact Off.mix | refine Off.mix2 ?_ rfl)), Look.here⟩
      refine Seq.p rfl Ev.move ?_
      refine Seq.andG (D := [40, 41, 42, 43, 44]) (d := 40) (t := 44) (k := 4) (hn := fun h40 => ?_) (hx := ?_)
      · repeat (first | refine Seq.gn rfl rfl rfl rfl ?_ | refine Seq.gu rfl rfl rfl ?_)
        refine Seq.p rfl Ev.pickF ?_
        exact Seq.nil ⟨rfl, (by repeat (first | with_reducible exact Off.refl | refine Off.upd ?_ rfl | exact Off.mix | refine Off.mix2 ?_ rfl)), Look.here⟩
      apply Exists.intro
      refine ⟨fun h40 => ?_, fun u44 => ?_⟩
      · try simp only [decide_eq_true_eq, decide_eq_false_iff_not, Bool.and_eq_true, Bool.or_eq_true, Bool.not_eq_true', Bool.not_eq_false', Bool.or_eq_false_iff, Bool.and_eq_false_imp] at h40
        refine Seq.gy rfl rfl rfl ?_
        refine Seq.p rfl (Ev.ldBA ag.api_Input) ?_
        refine Seq.gy rfl rfl rfl ?_
        refine Seq.p rfl (Ev.ldBA ag.api_Input) ?_
        refine Seq.gy rfl rfl rfl ?_
        refine Seq.p rfl (Ev.eqAg so.api_Input ag.api_Input gd.api_Input) ?_
        refine Seq.p rfl Ev.pickT ?_
        exact Seq.nil ⟨rfl, (by repeat (first | with_reducible exact Off.refl | refine Off.upd ?_ rfl | exact Off.mix | refine Off.mix2 ?_ rfl)), Look.here⟩
      refine Seq.p rfl Ev.assign ?_
      refine Seq.nil ?_
      refine JC.ret ?_
      -- return 1
      show retQ _ _ _ _ _ _ _ _
      refine ret1 (hp := Part.nil _) (hpost := ?_)
      simp [eqL, eqV]
end Go.Rx
