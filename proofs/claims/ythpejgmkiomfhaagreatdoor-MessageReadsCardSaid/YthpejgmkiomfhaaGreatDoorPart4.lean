/- Parts of the proof. -/
import Derived.Test.YthpejgmkiomfhaaGreatDoorPart3
import Derived.Test.YthpejgmkiomfhaaGreatDoorPart2
set_option linter.unusedVariables false
set_option linter.unusedSimpArgs false
/- The document's fields of a body. -/
namespace Go.Rx
open Go Go.RowKit Go.Lib Go.Proofs.YthpejgmkiomfhaaGreatDoor
set_option linter.unusedVariables false
set_option linter.unusedSimpArgs false
abbrev ansC (bk : Nat) (kind : ByteArray) (tv : Value) (at_ why : Int) (whole : Bool) (size : Int) : Chunk := .box bk 97 [.string kind, tv, .int .i64 at_, .int .i64 why, .bool whole, .int .i64 size]
def ansV (a : ReadA) (A : Option Addr) (c : Nat) (whole : Bool) (size : Int) : Value := .agg #[.string a.kind, .slice A a.tags.length c, .int .i64 a.place, .int .i64 a.why, .bool whole, .int .i64 size]
/-- What 'parts' tells. -/
def partsA : PartA → ReadA
  | .bad p e => ⟨⟨#[]⟩, [], p, e, 0⟩
  | .ok kind xs => ⟨kind, xs, 0, 0, 0⟩
theorem ref_none {F : List Int} {k : Nat} {bk : Bool} {q : Nat} (hk : firstF 61 F = k) (hkk : natF (strOf (F.take k)) = if bk = true then some q else none)
    (h : k = F.length ∨ bk = false ∨ 4 < k) : fieldN F = none := by
  unfold fieldN
  have hle := firstF_le 61 F
  rw [hk]
  by_cases h1 : k < F.length ∧ k ≤ 4
  · rw [if_pos h1, hkk]
    cases bk with
    | false => rfl
    | true => simp at h; omega
  · rw [if_neg h1]
theorem ref_some {F : List Int} {k : Nat} {bk : Bool} {q : Nat} (hk : firstF 61 F = k) (hkk : natF (strOf (F.take k)) = if bk = true then some q else none)
    (h1 : k ≠ F.length) (hb : bk = true) (h2 : k ≤ 4) : fieldN F = some q ∧ q < 10000 := by
  subst hb
  have hle := firstF_le 61 F
  simp only [if_true] at hkk
  refine ⟨?_, ?_⟩
  · unfold fieldN
    rw [hk, if_pos ⟨by omega, by omega⟩, hkk]
  · have h3 := natF_lt hkk
    rw [strOf_size] at h3
    have h4 : (F.take k).length ≤ 4 := by rw [List.length_take]; omega
    exact Nat.lt_of_lt_of_le h3 (Nat.pow_le_pow_right (by decide) h4)
theorem fieldAt_len {l : List Int} {p : Nat} : (fieldAt l p).length = firstF 1 (l.drop p) := by
  have := firstF_le 1 (l.drop p)
  unfold fieldAt
  rw [List.length_take]
  omega
theorem takeF_none {F : List Int} {first : Bool} {kind : ByteArray} {xs : List Tg} (h : fieldN F = none) : takeF F first kind xs = (3, kind, xs) := by
  unfold takeF
  rw [h]
theorem takeF_first {F : List Int} {kind : ByteArray} {xs : List Tg} {n : Nat} (h : fieldN F = some n) : takeF F true kind xs = if n ≠ 35 ∨ kindB (fieldV F) = false then (3, kind, xs) else (0, fieldV F, xs) := by
  unfold takeF
  rw [h]
  rfl
theorem takeF_next {F : List Int} {kind : ByteArray} {xs : List Tg} {n : Nat} (h : fieldN F = some n) : takeF F false kind xs = if xs.length = 64 then (2, kind, xs)
    else if refusedF xs ⟨n, fieldV F⟩ ≠ 0 then (refusedF xs ⟨n, fieldV F⟩, kind, xs) else (0, kind, xs ++ [⟨n, fieldV F⟩]) := by
  unfold takeF
  rw [h]
  rfl
abbrev nilC : Chunk := .own 74 2 (.slice none 0 0) 0 []
set_option maxHeartbeats 4000000 in
set_option maxRecDepth 100000 in
theorem refParts {w : World} {v : Value} {l : List Int} {f to : Nat} (hr : RSl byteEnc 1 w [] v l) (hB : isBytes l) (hl : l.length ≤ 281474976710656) (hf : f ≤ to) (ht : to ≤ l.length) (h1 : l[to - 1]! = 1) :
    Spec Go.Proofs.Tryz.prog 77 #[v, .int .i64 (f : Int), .int .i64 (to : Int)] w [] (fun u H' => ∃ A c, u = ansV (partsA (partsF l f to f ⟨#[]⟩ [])) A c false 0 ∧ H' = [tagsC (.slice A (partsA (partsF l f to f ⟨#[]⟩ [])).tags.length c) (partsA (partsF l f to f ⟨#[]⟩ [])).tags]) := by
  refine Spec.enter (fn := Go.Proofs.Tryz.f77) (n := 122) [v, .int .i64 (f : Int), .int .i64 (to : Int)] Go.Proofs.Tryz.func77 (by kernel_rfl) rfl Go.Proofs.Tryz.ntmps77 Go.Proofs.Tryz.results77 rfl (Own.nil _) ?_
  refine JC.re (fun w h => (h.nilOwn 74 2).nilOwn 74 2) ?_
  refine JC.rs ?_
  refine Seq.alloc (cs := [_, _, _, _, _, _]) (hz := z.bourseref03_Answer) (k := ?_); intro b6
  refine Seq.nil ?_
  refine JC.rs ?_
  refine Seq.p rfl (Ev.buildN [_, _, _, _, _, _] pl.bourseref03_Answer z.bourseref03_Answer) ?_
  refine Seq.alloc (cs := [_, _, _, _, _, _]) (hz := z.bourseref03_Answer) (k := ?_); intro b7
  refine Seq.storeN [_, _, _, _, _, _] sz.bourseref03_Answer (k := ?_)
  refine Seq.nil ?_
  refine JC.seq ?_
  refine JC.rs ?_
  refine Seq.p rfl Ev.move ?_
  refine Seq.p rfl Ev.assign ?_
  refine Seq.nil ?_
  refine JC.blk ?_
  refine JC.loop (α := Nat) (I := fun p e1 H1 => ∃ kind A c xs, Has [8, 9, 10, 11, 12, 13, 16, 17, 18, 19, 20, 21, 22, 23, 24, 25, 26, 27, 28, 29, 30, 31, 32, 33, 34, 35, 36, 37, 38, 39, 40, 41, 42, 43, 44, 45, 46, 47, 48, 49, 50, 51, 52, 53, 54, 55, 56, 57, 58, 59, 60, 61, 62, 63, 64, 65, 66, 67, 68, 69, 70, 71, 72, 73, 74, 75, 76, 77, 78, 79, 80, 81, 82, 83, 84, 85, 86, 87, 88, 89, 90, 91, 92, 93, 94, 95, 96, 97, 98, 99, 100, 101, 102, 103, 104, 105, 106, 107, 108, 109, 110, 111, 112, 113, 114, 115, 116, 117, 118, 119, 120] [(8, .int .i64 (p : Int))] _ e1 ∧ H1 = [ansC b7 kind (.slice A xs.length c) 0 0 false 0, ansC b6 ⟨#[]⟩ (.slice none 0 0) 0 0 false 0, tagsC (.slice A xs.length c) xs, nilC] ∧ f ≤ p ∧ p ≤ to ∧ xs.length ≤ 64 ∧ partsF l f to p kind xs = partsF l f to f ⟨#[]⟩ []) (μ := fun p => to - p) f ⟨⟨#[]⟩, none, 0, [], Has.mk Off.refl (allLook_cons (by repeat (first | exact Look.here | apply Look.there (hne := rfl) | exact Look.const | apply Look.mix rfl | exact Look.arg0 | apply Look.args | exact Look.func)) allLook_nil), rfl, by omega, by omega, by simp, rfl⟩ ?_
  rintro p _ _ ⟨kind, A, c, xs, ⟨u, rfl⟩, rfl, hfp, hpt, hx, hq⟩; dsimp only [setL]
  refine JC.seq ?_
  refine JC.rs ?_
  refine Seq.p rfl Ev.move ?_
  refine Seq.p rfl Ev.move ?_
  refine Seq.p rfl Ev.lt ?_
  refine Seq.nil ?_
  first | refine JC.c (ht := fun c18 => ?_) (hf := fun c18 => ?_) | refine JC.cb (ht := fun c18 => ?_) (hf := fun c18 => ?_)
  · -- then_t18
    have hp : p < to := by omega
    have hin := first_in hp ht h1
    have hlen : (l.drop p).length = l.length - p := List.length_drop ..
    refine JC.skip ?_
    refine JC.blk ?_
    refine JC.rs ?_
    refine Seq.p rfl Ev.move ?_
    refine Seq.p rfl Ev.assign ?_
    refine Seq.nil ?_
    refine JC.seq ?_
    refine JC.blk ?_
    refine JC.loop (α := Nat) (I := fun n e1 H1 => Has [9, 20, 21, 22, 23, 24, 25, 26] [(9, .int .i64 ((p + n : Nat) : Int))] _ e1 ∧ H1 = _ ∧ n ≤ firstF 1 (l.drop p)) (μ := fun n => firstF 1 (l.drop p) - n) 0 ⟨Has.mk Off.refl (allLook_cons (by repeat (first | exact Look.here | apply Look.there (hne := rfl) | exact Look.const | apply Look.mix rfl | exact Look.arg0 | apply Look.args | exact Look.func)) allLook_nil), rfl, by omega⟩ ?_
    rintro n _ _ ⟨⟨u2, rfl⟩, rfl, hn⟩; dsimp only [setL]
    refine JC.seq ?_
    refine JC.rs ?_
    refine Seq.p rfl Ev.move ?_
    refine Seq.p rfl Ev.move ?_
    refine Seq.p rfl (Ev.iaN sl.sl_uint8 (hr := hr.r)) ?_
    refine Seq.p rfl (Ev.ldE1 sc.uint8 (hr := hr.r)) ?_
    refine Seq.p rfl Ev.ne ?_
    refine Seq.nil ?_
    first | refine JC.c (ht := fun c24 => ?_) (hf := fun c24 => ?_) | refine JC.cb (ht := fun c24 => ?_) (hf := fun c24 => ?_)
    · -- then_t24
      refine JC.skip ?_
      refine JC.blk ?_
      refine JC.reg ?_
      refine Seq.p rfl Ev.move ?_
      refine Seq.p rfl (by first | exact Ev.inc | exact Ev.add) ?_
      refine Seq.p rfl Ev.assign ?_
      refine Seq.nil ?_
      have hn2 : n ≠ firstF 1 (l.drop p) := fun h => c24 (by rw [h, ← get_drop (by omega)]; exact firstF_get (by omega))
      exact ⟨n + 1, _, Part.refl _, ⟨Has.mk (by repeat (first | refine Off.upd ?_ rfl | exact Off.mix | refine Off.mix2 ?_ rfl | exact Off.refl)) (allLook_cons (by repeat (first | exact Look.here | apply Look.there (hne := rfl) | exact Look.const | apply Look.mix rfl | exact Look.arg0 | apply Look.args | exact Look.func)) allLook_nil), rfl, by omega⟩, by omega⟩
    · -- else_t24
      obtain rfl : n = firstF 1 (l.drop p) := by
        rcases Nat.lt_or_ge n (firstF 1 (l.drop p)) with h | h
        · exact absurd (by rw [← get_drop (by omega)] at c24; exact Classical.not_not.1 c24) (firstF_lt h)
        · omega
      have hFl := fieldAt_len (l := l) (p := p)
      have hkl := firstF_le 61 (fieldAt l p)
      refine JC.exit ?_ -- 2
      refine JC.rs ?_
      refine Seq.p rfl Ev.move ?_
      refine Seq.p rfl Ev.assign ?_
      refine Seq.nil ?_
      refine JC.seq ?_
      refine JC.blk ?_
      refine JC.loop (α := Nat) (I := fun k e1 H1 => Has [10, 28, 29, 30, 31, 32, 33, 34, 35, 36, 37, 38, 39] [(10, .int .i64 ((p + k : Nat) : Int))] _ e1 ∧ H1 = _ ∧ k ≤ firstF 61 (fieldAt l p)) (μ := fun k => firstF 61 (fieldAt l p) - k) 0 ⟨Has.mk Off.refl (allLook_cons (by repeat (first | exact Look.here | apply Look.there (hne := rfl) | exact Look.const | apply Look.mix rfl | exact Look.arg0 | apply Look.args | exact Look.func)) allLook_nil), rfl, by omega⟩ ?_
      rintro k _ _ ⟨⟨u3, rfl⟩, rfl, hk⟩; dsimp only [setL]
      have hget : k < firstF 1 (l.drop p) → (fieldAt l p)[k]! = l[p + k]! := fun h => by unfold fieldAt; rw [get_take h (by omega), get_drop (by omega)]
      refine JC.seq ?_
      refine JC.rs ?_
      refine Seq.p rfl Ev.move ?_
      refine Seq.p rfl Ev.move ?_
      refine Seq.p rfl Ev.lt ?_
      refine Seq.p rfl Ev.move ?_
      refine Seq.andG (D := [31, 32, 33, 34, 35, 36, 37]) (d := 31) (t := 37) (k := 6) (hn := fun h31 => ?_) (hx := ?_)
      · repeat (first | refine Seq.gn rfl rfl rfl rfl ?_ | refine Seq.gu rfl rfl rfl ?_)
        refine Seq.p rfl Ev.pickF ?_
        exact Seq.nil ⟨rfl, (by repeat (first | with_reducible exact Off.refl | refine Off.upd ?_ rfl | exact Off.mix | refine Off.mix2 ?_ rfl)), Look.here⟩
      apply Exists.intro
      refine ⟨fun h31 => ?_, fun u37 => ?_⟩
      · try simp only [decide_eq_true_eq, decide_eq_false_iff_not, Bool.and_eq_true, Bool.or_eq_true, Bool.not_eq_true', Bool.not_eq_false', Bool.or_eq_false_iff, Bool.and_eq_false_imp] at h31
        refine Seq.gy rfl rfl rfl ?_
        refine Seq.p rfl Ev.move ?_
        refine Seq.gy rfl rfl rfl ?_
        refine Seq.p rfl Ev.move ?_
        refine Seq.gy rfl rfl rfl ?_
        refine Seq.p rfl (Ev.iaN sl.sl_uint8 (hr := hr.r)) ?_
        refine Seq.gy rfl rfl rfl ?_
        refine Seq.p rfl (Ev.ldE1 sc.uint8 (hr := hr.r)) ?_
        refine Seq.gy rfl rfl rfl ?_
        refine Seq.p rfl Ev.ne ?_
        refine Seq.p rfl Ev.pickT ?_
        exact Seq.nil ⟨rfl, (by repeat (first | with_reducible exact Off.refl | refine Off.upd ?_ rfl | exact Off.mix | refine Off.mix2 ?_ rfl)), Look.here⟩
      refine Seq.nil ?_
      first | refine JC.c (ht := fun c37 => ?_) (hf := fun c37 => ?_) | refine JC.cb (ht := fun c37 => ?_) (hf := fun c37 => ?_)
      · -- then_t37
        refine JC.skip ?_
        refine JC.blk ?_
        refine JC.reg ?_
        refine Seq.p rfl Ev.move ?_
        refine Seq.p rfl (by first | exact Ev.inc | exact Ev.add) ?_
        refine Seq.p rfl Ev.assign ?_
        refine Seq.nil ?_
        simp only [Bool.and_eq_true, decide_eq_true_eq] at c37
        have hk2 : k ≠ firstF 61 (fieldAt l p) := fun h => c37.2 (by rw [← hget (by omega), h]; exact firstF_get (by omega))
        exact ⟨k + 1, _, Part.refl _, ⟨Has.mk (by repeat (first | refine Off.upd ?_ rfl | exact Off.mix | refine Off.mix2 ?_ rfl | exact Off.refl)) (allLook_cons (by repeat (first | exact Look.here | apply Look.there (hne := rfl) | exact Look.const | apply Look.mix rfl | exact Look.arg0 | apply Look.args | exact Look.func)) allLook_nil), rfl, by omega⟩, by omega⟩
      · -- else_t37
        have hk3 : firstF 61 (fieldAt l p) = k := by
          rcases Nat.lt_or_ge k (firstF 61 (fieldAt l p)) with h | h
          · simp only [Bool.and_eq_false_iff, decide_eq_false_iff_not] at c37
            rcases c37 with h2 | h2
            · omega
            · exact absurd (by rw [hget (by omega)]; exact Classical.not_not.1 h2) (firstF_lt h)
          · omega
        have hsub : RSl byteEnc 1 w [] (subSl v p (p + k) 1) ((fieldAt l p).take k) := by
          have h2 := hr.sub (lo := p) (hi := p + k) (by omega) (by omega)
          rw [show p + k - p = k by omega] at h2
          unfold fieldAt
          rwa [List.take_take, Nat.min_eq_left (by omega)]
        refine JC.exit ?_ -- 4
        refine JC.rs ?_
        refine Seq.p rfl Ev.move ?_
        refine Seq.p rfl Ev.move ?_
        refine Seq.p rfl Ev.move ?_
        refine Seq.p rfl (Ev.cut sl.sl_uint8 (hr := hr.r) (l := p) (h := p + k) (hlo := ⟨_, (by repeat (first | exact Look.here | apply Look.there (hne := rfl) | exact Look.const | apply Look.mix rfl | exact Look.arg0 | apply Look.args | exact Look.func))⟩) (hhi := ⟨_, (by repeat (first | exact Look.here | apply Look.there (hne := rfl) | exact Look.const | apply Look.mix rfl | exact Look.arg0 | apply Look.args | exact Look.func))⟩)) ?_
        refine Seq.p rfl (Ev.strOf (l := (fieldAt l p).take k) sl.sl_uint8 it.uint8 st.string (hr := hsub.r)) ?_
        obtain ⟨q, bk, hq1, hq2⟩ := natV_form (natF (strOf ((fieldAt l p).take k)))
        refine Seq.callP rfl (fun w hw => hq1 ▸ refNatural) ?_
        refine Seq.p rfl Ev.move ?_
        refine Seq.p rfl Ev.extract ?_
        refine Seq.p rfl Ev.extract ?_
        refine Seq.p rfl Ev.assign ?_
        refine Seq.p rfl Ev.assign ?_
        refine Seq.nil ?_
        refine JC.rs ?_
        refine Seq.p rfl Ev.move ?_
        refine Seq.p rfl Ev.move ?_
        refine Seq.p rfl (Ev.addN (m := p + k) (c := 1)) ?_
        refine Seq.p rfl Ev.move ?_
        refine Seq.p rfl (Ev.minN (ts := [3, 3]) (a := p + k + 1) (b := p + firstF 1 (l.drop p))) ?_
        refine Seq.p rfl Ev.move ?_
        obtain ⟨m, hm2⟩ : ∃ m : Nat, m = min (p + k + 1) (p + firstF 1 (l.drop p)) := ⟨_, rfl⟩
        rw [← hm2]
        have hsub2 : RSl byteEnc 1 w [] (subSl v m (p + firstF 1 (l.drop p)) 1) ((fieldAt l p).drop (k + 1)) := by
          have h2 := hr.sub (lo := m) (hi := p + firstF 1 (l.drop p)) (by omega) (by omega)
          have e : (fieldAt l p).drop (k + 1) = (l.drop m).take (p + firstF 1 (l.drop p) - m) := by
            unfold fieldAt
            rw [List.drop_take, List.drop_drop]
            rcases Nat.lt_or_ge k (firstF 1 (l.drop p)) with h | h
            · rw [show m = p + (k + 1) by omega]
              congr 1
              omega
            · rw [show firstF 1 (l.drop p) - (k + 1) = 0 by omega, show p + firstF 1 (l.drop p) - m = 0 by omega]
              rfl
          rwa [e]
        refine Seq.p rfl (Ev.cut sl.sl_uint8 (hr := hr.r) (l := m) (h := p + firstF 1 (l.drop p)) (hlo := ⟨_, (by repeat (first | exact Look.here | apply Look.there (hne := rfl) | exact Look.const | apply Look.mix rfl | exact Look.arg0 | apply Look.args | exact Look.func))⟩) (hhi := ⟨_, (by repeat (first | exact Look.here | apply Look.there (hne := rfl) | exact Look.const | apply Look.mix rfl | exact Look.arg0 | apply Look.args | exact Look.func))⟩)) ?_
        refine Seq.p rfl (Ev.strOf (l := (fieldAt l p).drop (k + 1)) sl.sl_uint8 it.uint8 st.string (hr := hsub2.r)) ?_
        refine Seq.p rfl Ev.assign ?_
        refine Seq.nil ?_
        refine JC.seq ?_
        refine JC.rs ?_
        refine Seq.p rfl Ev.move ?_
        refine Seq.p rfl Ev.move ?_
        refine Seq.p rfl Ev.eq ?_
        refine Seq.p rfl Ev.move ?_
        refine Seq.orG (D := [60, 61, 62, 63]) (d := 60) (t := 63) (k := 3) (hn := fun h60 => ?_) (hx := ?_)
        · repeat (first | refine Seq.gn rfl rfl rfl rfl ?_ | refine Seq.gu rfl rfl rfl ?_)
          refine Seq.p rfl Ev.pickT ?_
          exact Seq.nil ⟨rfl, (by repeat (first | with_reducible exact Off.refl | refine Off.upd ?_ rfl | exact Off.mix | refine Off.mix2 ?_ rfl)), Look.here⟩
        apply Exists.intro
        refine ⟨fun h60 => ?_, fun u63 => ?_⟩
        · try simp only [decide_eq_true_eq, decide_eq_false_iff_not, Bool.and_eq_true, Bool.or_eq_true, Bool.not_eq_true', Bool.not_eq_false', Bool.or_eq_false_iff, Bool.and_eq_false_imp] at h60
          refine Seq.gy rfl rfl rfl ?_
          refine Seq.p rfl Ev.move ?_
          refine Seq.gy rfl rfl rfl ?_
          refine Seq.p rfl Ev.not ?_
          refine Seq.p rfl Ev.pickF ?_
          exact Seq.nil ⟨rfl, (by repeat (first | with_reducible exact Off.refl | refine Off.upd ?_ rfl | exact Off.mix | refine Off.mix2 ?_ rfl)), Look.here⟩
        refine Seq.p rfl Ev.move ?_
        refine Seq.orG (D := [64, 65, 66, 67, 68, 69]) (d := 64) (t := 69) (k := 5) (hn := fun h64 => ?_) (hx := ?_)
        · repeat (first | refine Seq.gn rfl rfl rfl rfl ?_ | refine Seq.gu rfl rfl rfl ?_)
          refine Seq.p rfl Ev.pickT ?_
          exact Seq.nil ⟨rfl, (by repeat (first | with_reducible exact Off.refl | refine Off.upd ?_ rfl | exact Off.mix | refine Off.mix2 ?_ rfl)), Look.here⟩
        apply Exists.intro
        refine ⟨fun h64 => ?_, fun u69 => ?_⟩
        · try simp only [decide_eq_true_eq, decide_eq_false_iff_not, Bool.and_eq_true, Bool.or_eq_true, Bool.not_eq_true', Bool.not_eq_false', Bool.or_eq_false_iff, Bool.and_eq_false_imp] at h64
          refine Seq.gy rfl rfl rfl ?_
          refine Seq.p rfl Ev.move ?_
          refine Seq.gy rfl rfl rfl ?_
          refine Seq.p rfl Ev.move ?_
          refine Seq.gy rfl rfl rfl ?_
          refine Seq.p rfl Ev.sub ?_
          refine Seq.gy rfl rfl rfl ?_
          refine Seq.p rfl Ev.gt ?_
          refine Seq.p rfl Ev.pickF ?_
          exact Seq.nil ⟨rfl, (by repeat (first | with_reducible exact Off.refl | refine Off.upd ?_ rfl | exact Off.mix | refine Off.mix2 ?_ rfl)), Look.here⟩
        refine Seq.nil ?_
        first | refine JC.c (ht := fun c69 => ?_) (hf := fun c69 => ?_) | refine JC.cb (ht := fun c69 => ?_) (hf := fun c69 => ?_)
        · -- then_t69
          simp only [Bool.or_eq_true, Bool.not_eq_true', decide_eq_true_eq] at c69
          have hN := ref_none hk3 hq2 (by rcases c69 with (h | h) | h; exact .inl (by omega); exact .inr (.inl h); exact .inr (.inr (by omega)))
          refine JC.rs ?_
          refine Seq.p rfl Ev.move ?_
          refine Seq.callP rfl (fun w hw => refBad) ?_
          refine Seq.storeN [_, _, _, _, _, _] sz.bourseref03_Answer (k := ?_)
          refine Seq.nil ?_
          refine JC.ret ?_
          -- return 0
          show retQ _ _ _ _ _ _ _ _
          refine retB1 ag.bourseref03_Answer (H' := [nilC]) (hp := (by repeat (first | exact Part.refl _ | exact Part.nil _ | apply Part.here | apply Part.skip))) (hpost := ?_)
          rw [← hq, partsF_bad hp (takeF_none hN) (by decide)]
          exact ⟨none, 0, rfl, rfl⟩
        · -- else_t69
          simp only [Bool.or_eq_false_iff, Bool.not_eq_false', decide_eq_false_iff_not] at c69
          obtain ⟨⟨a1, a2⟩, a3⟩ := c69
          obtain ⟨hN, hq4⟩ := ref_some hk3 hq2 (by omega) a2 (by omega)
          have hv : fieldV (fieldAt l p) = strOf ((fieldAt l p).drop (k + 1)) := by unfold fieldV; rw [hk3]
          have hvz : (strOf ((fieldAt l p).drop (k + 1))).size ≤ 281474976710656 := by rw [strOf_size, List.length_drop]; omega
          refine JC.skip ?_
          refine JC.seq ?_
          refine JC.rs ?_
          refine Seq.p rfl Ev.move ?_
          refine Seq.p rfl Ev.move ?_
          refine Seq.p rfl Ev.eq ?_
          refine Seq.nil ?_
          first | refine JC.c (ht := fun c74 => ?_) (hf := fun c74 => ?_) | refine JC.cb (ht := fun c74 => ?_) (hf := fun c74 => ?_)
          · -- then_t74
            have hpf : p = f := by omega
            have ht1 := takeF_first (kind := kind) (xs := xs) hN
            rw [← decide_eq_true hpf, hv] at ht1
            refine JC.seq ?_
            refine JC.rs ?_
            refine Seq.p rfl Ev.move ?_
            refine Seq.p rfl Ev.ne ?_
            refine Seq.p rfl Ev.move ?_
            refine Seq.orG (D := [77, 78, 79, 80, 81]) (d := 77) (t := 81) (k := 4) (hn := fun h77 => ?_) (hx := ?_)
            · repeat (first | refine Seq.gn rfl rfl rfl rfl ?_ | refine Seq.gu rfl rfl rfl ?_)
              refine Seq.p rfl Ev.pickT ?_
              exact Seq.nil ⟨rfl, (by repeat (first | with_reducible exact Off.refl | refine Off.upd ?_ rfl | exact Off.mix | refine Off.mix2 ?_ rfl)), Look.here⟩
            apply Exists.intro
            refine ⟨fun h77 => ?_, fun u81 => ?_⟩
            · try simp only [decide_eq_true_eq, decide_eq_false_iff_not, Bool.and_eq_true, Bool.or_eq_true, Bool.not_eq_true', Bool.not_eq_false', Bool.or_eq_false_iff, Bool.and_eq_false_imp] at h77
              refine Seq.gy rfl rfl rfl ?_
              refine Seq.p rfl Ev.move ?_
              refine Seq.gy rfl rfl rfl ?_
              refine Seq.callP rfl (fun w hw => refKind hvz) ?_
              refine Seq.gy rfl rfl rfl ?_
              refine Seq.p rfl Ev.not ?_
              refine Seq.p rfl Ev.pickF ?_
              exact Seq.nil ⟨rfl, (by repeat (first | with_reducible exact Off.refl | refine Off.upd ?_ rfl | exact Off.mix | refine Off.mix2 ?_ rfl)), Look.here⟩
            refine Seq.nil ?_
            first | refine JC.c (ht := fun c81 => ?_) (hf := fun c81 => ?_) | refine JC.cb (ht := fun c81 => ?_) (hf := fun c81 => ?_)
            · -- then_t81
              refine JC.rs ?_
              refine Seq.p rfl Ev.move ?_
              refine Seq.callP rfl (fun w hw => refBad) ?_
              refine Seq.storeN [_, _, _, _, _, _] sz.bourseref03_Answer (k := ?_)
              refine Seq.nil ?_
              refine JC.ret ?_
              -- return 1
              show retQ _ _ _ _ _ _ _ _
              refine retB1 ag.bourseref03_Answer (H' := [nilC]) (hp := (by repeat (first | exact Part.refl _ | exact Part.nil _ | apply Part.here | apply Part.skip))) (hpost := ?_)
              rw [← hq, partsF_bad hp (ht1.trans (if_pos (by simp only [Bool.or_eq_true, Bool.not_eq_true', decide_eq_true_eq] at c81; rcases c81 with h | h; exact .inl (by omega); exact .inr h))) (by decide)]
              exact ⟨none, 0, rfl, rfl⟩
            · -- else_t81
              simp only [Bool.or_eq_false_iff, Bool.not_eq_false', decide_eq_false_iff_not] at c81
              rw [partsF_step hp (ht1.trans (if_neg (by rintro (h | h); exact c81.1 (by omega); rw [c81.2] at h; cases h)))] at hq
              refine JC.skip ?_
              refine JC.reg ?_
              refine Seq.p rfl Ev.move ?_
              refine Seq.p rfl (Ev.faB fd.bourseref03_Answer_0) ?_
              refine Seq.storeN [_, _, _, _, _, _] sz.string (k := ?_)
              refine Seq.nil ?_
              refine JC.reg ?_
              refine Seq.p rfl Ev.move ?_
              refine Seq.p rfl (by first | exact Ev.inc | exact Ev.add) ?_
              refine Seq.p rfl Ev.assign ?_
              refine Seq.nil ?_
              first | exact ⟨p + firstF 1 (l.drop p) + 1, _, Part.refl _, ⟨strOf ((fieldAt l p).drop (k + 1)), A, c, xs, Has.mk (by repeat (first | refine Off.upd ?_ rfl | exact Off.mix | refine Off.mix2 ?_ rfl | exact Off.refl)) (allLook_cons (by repeat (first | exact Look.here | apply Look.there (hne := rfl) | exact Look.const | apply Look.mix rfl | exact Look.arg0 | apply Look.args | exact Look.func)) allLook_nil), rfl, by omega, by omega, hx, hq⟩, by omega⟩ | exact ⟨p + firstF 1 (l.drop p) + 1, _, Part.skip (Part.refl _), ⟨kind, A117, c117, xs ++ [⟨q, strOf ((fieldAt l p).drop (k + 1))⟩], Has.mk (by repeat (first | refine Off.upd ?_ rfl | exact Off.mix | refine Off.mix2 ?_ rfl | exact Off.refl)) (allLook_cons (by repeat (first | exact Look.here | apply Look.there (hne := rfl) | exact Look.const | apply Look.mix rfl | exact Look.arg0 | apply Look.args | exact Look.func)) allLook_nil), by simp [tagsC, Tg.enc, List.flatMap_append], by omega, by omega, by simp; omega, hq⟩, by omega⟩
          · -- else_t74
            have hpf : ¬ p = f := by omega
            have ht1 := takeF_next (kind := kind) (xs := xs) hN
            rw [← decide_eq_false hpf, hv] at ht1
            refine JC.seq ?_
            refine JC.rs ?_
            refine Seq.p rfl (Ev.faB fd.bourseref03_Answer_1) ?_
            refine Seq.p rfl (Ev.ldB sc.sl_api_Tag) ?_
            refine Seq.p rfl (Ev.lenSl sl.sl_api_Tag (hr := RAt.own (enc := Tg.enc) (xs := xs))) ?_
            refine Seq.p rfl Ev.ge ?_
            refine Seq.nil ?_
            first | refine JC.c (ht := fun c89 => ?_) (hf := fun c89 => ?_) | refine JC.cb (ht := fun c89 => ?_) (hf := fun c89 => ?_)
            · -- then_t89
              refine JC.rs ?_
              refine Seq.p rfl Ev.move ?_
              refine Seq.callP rfl (fun w hw => refBad) ?_
              refine Seq.storeN [_, _, _, _, _, _] sz.bourseref03_Answer (k := ?_)
              refine Seq.nil ?_
              refine JC.ret ?_
              -- return 2
              show retQ _ _ _ _ _ _ _ _
              refine retB1 ag.bourseref03_Answer (H' := [nilC]) (hp := (by repeat (first | exact Part.refl _ | exact Part.nil _ | apply Part.here | apply Part.skip))) (hpost := ?_)
              rw [← hq, partsF_bad hp (ht1.trans (if_pos (by omega))) (by decide)]
              exact ⟨none, 0, rfl, rfl⟩
            · -- else_t89
              rw [if_neg (by omega)] at ht1
              refine JC.skip ?_
              refine JC.seq ?_
              refine JC.rs ?_
              refine Seq.p rfl Ev.move ?_
              refine Seq.p rfl (Ev.conv64 it.uint64 it.int) ?_
              refine Seq.callP rfl (fun w hw => refIsTag) ?_
              refine Seq.p rfl Ev.not ?_
              refine Seq.p rfl Ev.move ?_
              refine Seq.orG (D := [96, 97, 98, 99, 100, 101, 102]) (d := 96) (t := 102) (k := 6) (hn := fun h96 => ?_) (hx := ?_)
              · repeat (first | refine Seq.gn rfl rfl rfl rfl ?_ | refine Seq.gu rfl rfl rfl ?_)
                refine Seq.p rfl Ev.pickT ?_
                exact Seq.nil ⟨rfl, (by repeat (first | with_reducible exact Off.refl | refine Off.upd ?_ rfl | exact Off.mix | refine Off.mix2 ?_ rfl)), Look.here⟩
              apply Exists.intro
              refine ⟨fun h96 => ?_, fun u102 => ?_⟩
              · try simp only [decide_eq_true_eq, decide_eq_false_iff_not, Bool.and_eq_true, Bool.or_eq_true, Bool.not_eq_true', Bool.not_eq_false', Bool.or_eq_false_iff, Bool.and_eq_false_imp] at h96
                refine Seq.gy rfl rfl rfl ?_
                refine Seq.p rfl (Ev.faB fd.bourseref03_Answer_1) ?_
                refine Seq.gy rfl rfl rfl ?_
                refine Seq.p rfl (Ev.ldB sc.sl_api_Tag) ?_
                refine Seq.gy rfl rfl rfl ?_
                refine Seq.p rfl Ev.move ?_
                refine Seq.gy rfl rfl rfl ?_
                refine Seq.p rfl (Ev.conv64 it.uint64 it.int) ?_
                refine Seq.gy rfl rfl rfl ?_
                refine Seq.callP rfl (fun w hw => refThere (RAt.up (RAt.own (enc := Tg.enc) (xs := xs)) hw)) ?_
                refine Seq.p rfl Ev.pickF ?_
                exact Seq.nil ⟨rfl, (by repeat (first | with_reducible exact Off.refl | refine Off.upd ?_ rfl | exact Off.mix | refine Off.mix2 ?_ rfl)), Look.here⟩
              refine Seq.nil ?_
              first | refine JC.c (ht := fun c102 => ?_) (hf := fun c102 => ?_) | refine JC.cb (ht := fun c102 => ?_) (hf := fun c102 => ?_)
              · -- then_t102
                refine JC.rs ?_
                refine Seq.p rfl Ev.move ?_
                refine Seq.callP rfl (fun w hw => refBad) ?_
                refine Seq.storeN [_, _, _, _, _, _] sz.bourseref03_Answer (k := ?_)
                refine Seq.nil ?_
                refine JC.ret ?_
                -- return 3
                show retQ _ _ _ _ _ _ _ _
                refine retB1 ag.bourseref03_Answer (H' := [nilC]) (hp := (by repeat (first | exact Part.refl _ | exact Part.nil _ | apply Part.here | apply Part.skip))) (hpost := ?_)
                have e3 : refusedF xs ⟨q, strOf ((fieldAt l p).drop (k + 1))⟩ = 30 := if_pos c102
                rw [← hq, partsF_bad hp (ht1.trans (if_pos (by rw [e3]; decide))) (by rw [e3]; decide), e3]
                exact ⟨none, 0, rfl, rfl⟩
              · -- else_t102
                refine JC.skip ?_
                refine JC.seq ?_
                refine JC.rs ?_
                refine Seq.p rfl Ev.move ?_
                refine Seq.callP rfl (fun w hw => refIsValue hvz) ?_
                refine Seq.p rfl Ev.not ?_
                refine Seq.nil ?_
                first | refine JC.c (ht := fun c107 => ?_) (hf := fun c107 => ?_) | refine JC.cb (ht := fun c107 => ?_) (hf := fun c107 => ?_)
                · -- then_t107
                  refine JC.rs ?_
                  refine Seq.p rfl Ev.move ?_
                  refine Seq.callP rfl (fun w hw => refBad) ?_
                  refine Seq.storeN [_, _, _, _, _, _] sz.bourseref03_Answer (k := ?_)
                  refine Seq.nil ?_
                  refine JC.ret ?_
                  -- return 4
                  show retQ _ _ _ _ _ _ _ _
                  refine retB1 ag.bourseref03_Answer (H' := [nilC]) (hp := (by repeat (first | exact Part.refl _ | exact Part.nil _ | apply Part.here | apply Part.skip))) (hpost := ?_)
                  have e3 : refusedF xs ⟨q, strOf ((fieldAt l p).drop (k + 1))⟩ = 31 := by unfold refusedF; rw [if_neg (by simp only at c102 ⊢; rw [c102]; decide), if_pos c107]
                  rw [← hq, partsF_bad hp (ht1.trans (if_pos (by rw [e3]; decide))) (by rw [e3]; decide), e3]
                  exact ⟨none, 0, rfl, rfl⟩
                · -- else_t107
                  have e3 : refusedF xs ⟨q, strOf ((fieldAt l p).drop (k + 1))⟩ = 0 := by unfold refusedF; rw [if_neg (by simp only at c102 ⊢; rw [c102]; decide), if_neg (by rw [c107]; decide)]
                  rw [e3, if_neg (fun h => h rfl)] at ht1
                  rw [partsF_step hp ht1] at hq
                  refine JC.skip ?_
                  refine JC.reg ?_
                  refine Seq.p rfl (Ev.faB fd.bourseref03_Answer_1) ?_
                  refine Seq.p rfl (Ev.ldB sc.sl_api_Tag) ?_
                  refine Seq.p rfl Ev.move ?_
                  refine Seq.p rfl (Ev.conv64 it.uint64 it.int) ?_
                  refine Seq.p rfl Ev.move ?_
                  refine Seq.p rfl (Ev.buildN [_, _] pl.api_Tag z.api_Tag) ?_
                  refine Seq.buildSlN [_, _] (hsl := sl.sl_api_Tag) (hz := z.api_Tag) (k := ?_); intro b116
                  refine Seq.append (hsl := sl.sl_api_Tag) (he := el.api_Tag) (hsrc := (fun w' hw => Src.box (hl := by rfl) (hc := fun q u hu => hu) sl.sl_api_Tag At.z hw)) (k := ?_); intro A117 c117
                  refine Seq.p rfl (Ev.faB fd.bourseref03_Answer_1) ?_
                  refine Seq.storeN [_, _, _, _, _, _] sz.sl_api_Tag (k := ?_)
                  refine Seq.nil ?_
                  refine JC.reg ?_
                  refine Seq.p rfl Ev.move ?_
                  refine Seq.p rfl (by first | exact Ev.inc | exact Ev.add) ?_
                  refine Seq.p rfl Ev.assign ?_
                  refine Seq.nil ?_
                  first | exact ⟨p + firstF 1 (l.drop p) + 1, _, Part.refl _, ⟨strOf ((fieldAt l p).drop (k + 1)), A, c, xs, Has.mk (by repeat (first | refine Off.upd ?_ rfl | exact Off.mix | refine Off.mix2 ?_ rfl | exact Off.refl)) (allLook_cons (by repeat (first | exact Look.here | apply Look.there (hne := rfl) | exact Look.const | apply Look.mix rfl | exact Look.arg0 | apply Look.args | exact Look.func)) allLook_nil), rfl, by omega, by omega, hx, hq⟩, by omega⟩ | exact ⟨p + firstF 1 (l.drop p) + 1, _, Part.skip (Part.refl _), ⟨kind, A117, c117, xs ++ [⟨q, strOf ((fieldAt l p).drop (k + 1))⟩], Has.mk (by repeat (first | refine Off.upd ?_ rfl | exact Off.mix | refine Off.mix2 ?_ rfl | exact Off.refl)) (allLook_cons (by repeat (first | exact Look.here | apply Look.there (hne := rfl) | exact Look.const | apply Look.mix rfl | exact Look.arg0 | apply Look.args | exact Look.func)) allLook_nil), by simp [tagsC, Tg.enc, List.flatMap_append], by omega, by omega, by simp; omega, hq⟩, by omega⟩
  · -- else_t18
    rw [partsF_end (by omega)] at hq
    refine JC.exit ?_ -- 0
    refine JC.rs ?_
    refine Seq.p rfl (Ev.ldBA ag.bourseref03_Answer) ?_
    refine Seq.storeN [_, _, _, _, _, _] sz.bourseref03_Answer (k := ?_)
    refine Seq.nil ?_
    refine JC.ret ?_
    -- return 5
    show retQ _ _ _ _ _ _ _ _
    refine retB1 ag.bourseref03_Answer (H' := [tagsC (.slice A xs.length c) xs]) (hp := (by repeat (first | exact Part.refl _ | exact Part.nil _ | apply Part.here | apply Part.skip))) (hpost := ?_)
    rw [← hq]
    exact ⟨A, c, rfl, rfl⟩
end Go.Rx
/- The document's reading of a line. -/
namespace Go.Rx
open Go Go.RowKit Go.Lib Go.Proofs.YthpejgmkiomfhaaGreatDoor
set_option linter.unusedVariables false
set_option linter.unusedSimpArgs false
theorem readF_bad {l : List Int} {a c : Int} (h : headF l = .bad a c) : readF l = badA a c := by unfold readF; rw [h]
theorem readF_long {l : List Int} {f k : Nat} (h : headF l = .ok f k) (h1 : 2048 < f + k + 7) : readF l = badA 10 2 := by unfold readF; rw [h]; exact if_pos h1
theorem readF_short {l : List Int} {f k : Nat} (h : headF l = .ok f k) (h1 : ¬ 2048 < f + k + 7) (h2 : l.length < f + k + 7) : readF l = badA l.length 20 := by
  unfold readF; rw [h]; simp only; rw [if_neg h1, if_pos h2]
theorem readF_body {l : List Int} {f k : Nat} (h : headF l = .ok f k) (h1 : ¬ 2048 < f + k + 7) (h2 : ¬ l.length < f + k + 7)
    (h3 : trailB ((l.drop (f + k)).take 7) = false ∨ k = 0 ∨ l[f + k - 1]! ≠ 1) : readF l = badA (f + k : Nat) 32 := by
  unfold readF; rw [h]; simp only; rw [if_neg h1, if_neg h2, if_pos h3]
theorem readF_trail {l : List Int} {f k : Nat} (h : headF l = .ok f k) (h1 : ¬ 2048 < f + k + 7) (h2 : ¬ l.length < f + k + 7)
    (h3 : ¬ (trailB ((l.drop (f + k)).take 7) = false ∨ k = 0 ∨ l[f + k - 1]! ≠ 1)) (h4 : (l.drop (f + k)).take 7 ≠ lastL (l.take (f + k))) : readF l = badA (f + k : Nat) 33 := by
  unfold readF; rw [h]; simp only; rw [if_neg h1, if_neg h2, if_neg h3, if_pos h4]
theorem readF_parts {l : List Int} {f k : Nat} (h : headF l = .ok f k) (h1 : ¬ 2048 < f + k + 7) (h2 : ¬ l.length < f + k + 7)
    (h3 : ¬ (trailB ((l.drop (f + k)).take 7) = false ∨ k = 0 ∨ l[f + k - 1]! ≠ 1)) (h4 : ¬ (l.drop (f + k)).take 7 ≠ lastL (l.take (f + k))) : readF l = partA (f + k + 7) (partsF l f (f + k) f ⟨#[]⟩ []) := by
  unfold readF; rw [h]; simp only; rw [if_neg h1, if_neg h2, if_neg h3, if_neg h4]
theorem head_from {l : List Int} {f k : Nat} (h : headF l = .ok f k) : 11 ≤ f ∧ f ≤ 16 ∧ k < 10000 := by
  have hg := dgF_le l 5 0
  unfold headF at h
  split at h
  · split at h <;> cases h
  · split at h
    · cases h
    · split at h
      · rename_i q hq
        split at h
        · cases h
        · rename_i hn
          cases h
          refine ⟨by omega, by omega, ?_⟩
          have h3 := natF_lt hq
          rw [strOf_size] at h3
          have h4 : ((l.drop 10).take (dgF l 5 0)).length ≤ 4 := by rw [List.length_take]; omega
          exact Nat.lt_of_lt_of_le h3 (Nat.pow_le_pow_right (by decide) h4)
      · cases h
theorem head_why {l : List Int} {a c : Int} (h : headF l = .bad a c) : c ≠ 0 := by
  unfold headF at h
  split at h
  · split at h <;> (cases h; decide)
  · split at h
    · cases h; decide
    · split at h
      · split at h
        · cases h; decide
        · cases h
      · cases h; decide
theorem headV_form (l : List Int) : ∃ fr lg a c, headV (headF l) = .tuple #[.int .i64 fr, .int .i64 lg, badV a c] ∧ ((c ≠ 0 ∧ readF l = badA a c) ∨ (c = 0 ∧ ∃ f k : Nat, headF l = .ok f k ∧ fr = (f : Int) ∧ lg = (k : Int) ∧ 11 ≤ f ∧ f ≤ 16 ∧ k < 10000)) := by
  cases h : headF l with
  | bad a c => exact ⟨0, 0, a, c, rfl, .inl ⟨head_why h, readF_bad h⟩⟩
  | ok f k => exact ⟨f, k, 0, 0, rfl, .inr ⟨rfl, f, k, rfl, rfl, rfl, head_from h⟩⟩
theorem isBytes_sub {l m : List Int} (h : isBytes l) (hs : ∀ x ∈ m, x ∈ l) : isBytes m := fun x hx => h x (hs x hx)
theorem isBytes_drop {l : List Int} {n : Nat} (h : isBytes l) : isBytes (l.drop n) := fun x hx => h x (List.mem_of_mem_drop hx)
theorem isBytes_take {l : List Int} {n : Nat} (h : isBytes l) : isBytes (l.take n) := fun x hx => h x (List.mem_of_mem_take hx)
theorem isBytes_last (l : List Int) : isBytes (lastL l) := by
  have hs := sumB_range l
  intro x hx
  simp only [lastL, threeL, List.cons_append, List.nil_append, List.mem_cons, List.not_mem_nil, or_false] at hx
  rcases hx with h | h | h | h | h | h | h <;> omega
theorem isBytes_three (l : List Int) : isBytes (threeL (sumB l)) := by
  have hs := sumB_range l
  intro x hx
  simp only [threeL, List.mem_cons, List.not_mem_nil, or_false] at hx
  rcases hx with h | h | h <;> omega
theorem seven {t : List Int} (h : t.length = 7) : ∃ a b c d e f g, t = [a, b, c, d, e, f, g] := by
  match t, h with
  | [a, b, c, d, e, f, g], _ => exact ⟨a, b, c, d, e, f, g, rfl⟩
theorem trail_last {t l : List Int} (h : t.length = 7) (ht : trailB t = true) : t = lastL l ↔ (t.drop 3).take 3 = threeL (sumB l) := by
  obtain ⟨a, b, c, d, e, f, g, rfl⟩ := seven h
  unfold trailB at ht
  simp only [Bool.and_eq_true, decide_eq_true_eq] at ht
  obtain ⟨⟨_, h1⟩, h2⟩ := ht
  simp at h1 h2
  obtain ⟨rfl, rfl, rfl⟩ := h1
  subst h2
  simp [lastL, threeL]
theorem trailB_seven (a b c d e f g : Int) : trailB [a, b, c, d, e, f, g] = ((digit d && (digit e && digit f) && (decide (a = 49) && (decide (b = 48) && decide (c = 61)))) && decide (g = 1)) := by
  unfold trailB
  rw [Bool.eq_iff_iff]
  simp
set_option maxHeartbeats 4000000 in
set_option maxRecDepth 100000 in
theorem refRead {w : World} {v : Value} {l : List Int} (hr : RSl byteEnc 1 w [] v l) (hB : isBytes l) (hl : l.length ≤ 281474976710656) :
    Spec Go.Proofs.Tryz.prog 47 #[v] w [] (fun u H' => ∃ A c, u = ansV (readF l) A c (decide ((readF l).size ≠ 0)) (readF l).size ∧ H' = [tagsC (.slice A (readF l).tags.length c) (readF l).tags]) := by
  obtain ⟨fr, lg, a0, c0, hfv, hfacts⟩ := headV_form l
  refine Spec.enter (fn := Go.Proofs.Tryz.f47) (n := 129) [v] Go.Proofs.Tryz.func47 (by kernel_rfl) rfl Go.Proofs.Tryz.ntmps47 Go.Proofs.Tryz.results47 rfl (Own.nil _) ?_
  refine JC.re (fun w h => h.nilOwn 74 2) ?_
  refine JC.rs ?_
  refine Seq.alloc (cs := [_, _, _, _, _, _]) (hz := z.bourseref03_Answer) (k := ?_); intro b2
  refine Seq.nil ?_
  refine JC.rs ?_
  refine Seq.p rfl Ev.move ?_
  refine Seq.callP rfl (fun w hw => hfv ▸ refHead (hr.up hw) hB) ?_
  refine Seq.p rfl Ev.move ?_
  refine Seq.p rfl Ev.extract ?_
  refine Seq.p rfl Ev.extract ?_
  refine Seq.p rfl Ev.extract ?_
  refine Seq.alloc (cs := [_, _, _, _, _, _]) (hz := z.bourseref03_Answer) (k := ?_); intro b5
  refine Seq.p rfl Ev.assign ?_
  refine Seq.p rfl Ev.assign ?_
  refine Seq.storeN [_, _, _, _, _, _] sz.bourseref03_Answer (k := ?_)
  refine Seq.nil ?_
  refine JC.seq ?_
  refine JC.rs ?_
  refine Seq.p rfl (Ev.faB fd.bourseref03_Answer_3) ?_
  refine Seq.p rfl (Ev.ldB sc.api_Errno) ?_
  refine Seq.p rfl Ev.ne ?_
  refine Seq.nil ?_
  first | refine JC.c (ht := fun c17 => ?_) (hf := fun c17 => ?_) | refine JC.cb (ht := fun c17 => ?_) (hf := fun c17 => ?_)
  · -- then_t17
    refine JC.rs ?_
    refine Seq.p rfl (Ev.ldBA ag.bourseref03_Answer) ?_
    refine Seq.storeN [_, _, _, _, _, _] sz.bourseref03_Answer (k := ?_)
    refine Seq.nil ?_
    refine JC.ret ?_
    -- return 0
    show retQ _ _ _ _ _ _ _ _
    refine retB1 ag.bourseref03_Answer (H' := [nilC]) (hp := (by repeat (first | exact Part.refl _ | exact Part.nil _ | apply Part.here | apply Part.skip))) (hpost := ?_)
    rcases hfacts with ⟨h1, h2⟩ | ⟨h1, _⟩
    · rw [h2]; exact ⟨none, 0, rfl, rfl⟩
    · exact absurd h1 c17
  · -- else_t17
    obtain ⟨rfl, f, k, hh, rfl, rfl, hf1, hf2, hk⟩ : c0 = 0 ∧ ∃ f k : Nat, headF l = .ok f k ∧ fr = (f : Int) ∧ lg = (k : Int) ∧ 11 ≤ f ∧ f ≤ 16 ∧ k < 10000 := by
      rcases hfacts with ⟨h1, _⟩ | h
      · exact absurd h1 c17
      · exact h
    refine JC.skip ?_
    refine JC.seq ?_
    refine JC.rs ?_
    refine Seq.p rfl Ev.move ?_
    refine Seq.p rfl Ev.move ?_
    refine Seq.p rfl (Ev.addN (m := f) (c := k)) ?_
    refine Seq.p rfl (Ev.addN (m := f + k) (c := 7)) ?_
    refine Seq.p rfl Ev.gt ?_
    refine Seq.nil ?_
    first | refine JC.c (ht := fun c23 => ?_) (hf := fun c23 => ?_) | refine JC.cb (ht := fun c23 => ?_) (hf := fun c23 => ?_)
    · -- then_t23
      refine JC.rs ?_
      refine Seq.callP rfl (fun w hw => refBad) ?_
      refine Seq.storeN [_, _, _, _, _, _] sz.bourseref03_Answer (k := ?_)
      refine Seq.nil ?_
      refine JC.ret ?_
      -- return 1
      show retQ _ _ _ _ _ _ _ _
      refine retB1 ag.bourseref03_Answer (H' := [nilC]) (hp := (by repeat (first | exact Part.refl _ | exact Part.nil _ | apply Part.here | apply Part.skip))) (hpost := ?_)
      rw [readF_long hh (by omega)]
      exact ⟨none, 0, rfl, rfl⟩
    · -- else_t23
      refine JC.skip ?_
      refine JC.rs ?_
      refine Seq.p rfl Ev.move ?_
      refine Seq.p rfl Ev.move ?_
      refine Seq.p rfl (Ev.addN (m := f) (c := k)) ?_
      refine Seq.p rfl Ev.assign ?_
      refine Seq.nil ?_
      refine JC.seq ?_
      refine JC.rs ?_
      refine Seq.p rfl Ev.move ?_
      refine Seq.p rfl (Ev.lenSl sl.sl_uint8 (hr := hr.r)) ?_
      refine Seq.p rfl Ev.move ?_
      refine Seq.p rfl (Ev.addN (m := f + k) (c := 7)) ?_
      refine Seq.p rfl Ev.lt ?_
      refine Seq.nil ?_
      first | refine JC.c (ht := fun c32 => ?_) (hf := fun c32 => ?_) | refine JC.cb (ht := fun c32 => ?_) (hf := fun c32 => ?_)
      · -- then_t32
        refine JC.rs ?_
        refine Seq.p rfl Ev.move ?_
        refine Seq.p rfl (Ev.lenSl sl.sl_uint8 (hr := hr.r)) ?_
        refine Seq.callP rfl (fun w hw => refBad) ?_
        refine Seq.storeN [_, _, _, _, _, _] sz.bourseref03_Answer (k := ?_)
        refine Seq.nil ?_
        refine JC.ret ?_
        -- return 2
        show retQ _ _ _ _ _ _ _ _
        refine retB1 ag.bourseref03_Answer (H' := [nilC]) (hp := (by repeat (first | exact Part.refl _ | exact Part.nil _ | apply Part.here | apply Part.skip))) (hpost := ?_)
        rw [readF_short hh (by omega) (by omega)]
        exact ⟨none, 0, rfl, rfl⟩
      · -- else_t32
        have hs1 : ¬ 2048 < f + k + 7 := by omega
        have hs2 : ¬ l.length < f + k + 7 := by omega
        have hT : ((l.drop (f + k)).take 7).length = 7 := by rw [List.length_take, List.length_drop]; omega
        have hBT : isBytes ((l.drop (f + k)).take 7) := isBytes_take (isBytes_drop hB)
        have hsubT : RSl byteEnc 1 w [] (subSl v (f + k) (f + k + 7) 1) ((l.drop (f + k)).take 7) := by
          have h2 := hr.sub (lo := f + k) (hi := f + k + 7) (by omega) (by omega)
          rwa [show f + k + 7 - (f + k) = 7 by omega] at h2
        have hhead : RSl byteEnc 1 w [] (subSl v 0 (f + k) 1) (l.take (f + k)) := by
          have h2 := hr.sub (lo := 0) (hi := f + k) (by omega) (by omega)
          rwa [List.drop_zero] at h2
        have hTs : RSl byteEnc 1 w [] (subSl (subSl v (f + k) (f + k + 7) 1) 0 3 1) (((l.drop (f + k)).take 7).take 3) := by
          have h2 := hsubT.sub (lo := 0) (hi := 3) (by omega) (by omega)
          rwa [List.drop_zero] at h2
        have hTd : RSl byteEnc 1 w [] (subSl (subSl v (f + k) (f + k + 7) 1) 3 6 1) ((((l.drop (f + k)).take 7).drop 3).take 3) := hsubT.sub (lo := 3) (hi := 6) (by omega) (by omega)
        generalize hTg : (l.drop (f + k)).take 7 = T at hT hBT hsubT hTs hTd
        refine JC.skip ?_
        refine JC.rs ?_
        refine Seq.p rfl Ev.move ?_
        refine Seq.p rfl Ev.move ?_
        refine Seq.p rfl Ev.move ?_
        refine Seq.p rfl (Ev.addN (m := f + k) (c := 7)) ?_
        refine Seq.p rfl (Ev.cut sl.sl_uint8 (hr := hr.r) (l := f + k) (h := f + k + 7) (hlo := ⟨_, (by repeat (first | exact Look.here | apply Look.there (hne := rfl) | exact Look.const | apply Look.mix rfl | exact Look.arg0 | apply Look.args | exact Look.func))⟩) (hhi := ⟨_, (by repeat (first | exact Look.here | apply Look.there (hne := rfl) | exact Look.const | apply Look.mix rfl | exact Look.arg0 | apply Look.args | exact Look.func))⟩)) ?_
        refine Seq.p rfl Ev.assign ?_
        refine Seq.nil ?_
        refine JC.rs ?_
        refine Seq.p rfl Ev.move ?_
        refine Seq.p rfl (Ev.iaN sl.sl_uint8 (i := 3) (hr := hsubT.r) (hi := by rw [hT]; decide)) ?_
        refine Seq.p rfl (Ev.ldE1 sc.uint8 (i := 3) (hr := hsubT.r) (hi := by rw [hT]; decide)) ?_
        refine Seq.p rfl Ev.ge ?_
        refine Seq.p rfl Ev.move ?_
        refine Seq.andG (D := [45, 46, 47, 48, 49, 50]) (d := 45) (t := 50) (k := 5) (hn := fun h45 => ?_) (hx := ?_)
        · repeat (first | refine Seq.gn rfl rfl rfl rfl ?_ | refine Seq.gu rfl rfl rfl ?_)
          refine Seq.p rfl Ev.pickF ?_
          exact Seq.nil ⟨rfl, (by repeat (first | with_reducible exact Off.refl | refine Off.upd ?_ rfl | exact Off.mix | refine Off.mix2 ?_ rfl)), Look.here⟩
        apply Exists.intro
        refine ⟨fun h45 => ?_, fun u50 => ?_⟩
        · try simp only [decide_eq_true_eq, decide_eq_false_iff_not, Bool.and_eq_true, Bool.or_eq_true, Bool.not_eq_true', Bool.not_eq_false', Bool.or_eq_false_iff, Bool.and_eq_false_imp] at h45
          refine Seq.gy rfl rfl rfl ?_
          refine Seq.p rfl Ev.move ?_
          refine Seq.gy rfl rfl rfl ?_
          refine Seq.p rfl (Ev.iaN sl.sl_uint8 (i := 3) (hr := hsubT.r) (hi := by rw [hT]; decide)) ?_
          refine Seq.gy rfl rfl rfl ?_
          refine Seq.p rfl (Ev.ldE1 sc.uint8 (i := 3) (hr := hsubT.r) (hi := by rw [hT]; decide)) ?_
          refine Seq.gy rfl rfl rfl ?_
          refine Seq.p rfl Ev.le ?_
          refine Seq.p rfl Ev.pickT ?_
          exact Seq.nil ⟨rfl, (by repeat (first | with_reducible exact Off.refl | refine Off.upd ?_ rfl | exact Off.mix | refine Off.mix2 ?_ rfl)), Look.here⟩
        refine Seq.p rfl Ev.move ?_
        refine Seq.andG (D := [51, 52, 53, 54, 55, 56]) (d := 51) (t := 56) (k := 5) (hn := fun h51 => ?_) (hx := ?_)
        · repeat (first | refine Seq.gn rfl rfl rfl rfl ?_ | refine Seq.gu rfl rfl rfl ?_)
          refine Seq.p rfl Ev.pickF ?_
          exact Seq.nil ⟨rfl, (by repeat (first | with_reducible exact Off.refl | refine Off.upd ?_ rfl | exact Off.mix | refine Off.mix2 ?_ rfl)), Look.here⟩
        apply Exists.intro
        refine ⟨fun h51 => ?_, fun u56 => ?_⟩
        · try simp only [decide_eq_true_eq, decide_eq_false_iff_not, Bool.and_eq_true, Bool.or_eq_true, Bool.not_eq_true', Bool.not_eq_false', Bool.or_eq_false_iff, Bool.and_eq_false_imp] at h51
          refine Seq.gy rfl rfl rfl ?_
          refine Seq.p rfl Ev.move ?_
          refine Seq.gy rfl rfl rfl ?_
          refine Seq.p rfl (Ev.iaN sl.sl_uint8 (i := 4) (hr := hsubT.r) (hi := by rw [hT]; decide)) ?_
          refine Seq.gy rfl rfl rfl ?_
          refine Seq.p rfl (Ev.ldE1 sc.uint8 (i := 4) (hr := hsubT.r) (hi := by rw [hT]; decide)) ?_
          refine Seq.gy rfl rfl rfl ?_
          refine Seq.p rfl Ev.ge ?_
          refine Seq.p rfl Ev.pickT ?_
          exact Seq.nil ⟨rfl, (by repeat (first | with_reducible exact Off.refl | refine Off.upd ?_ rfl | exact Off.mix | refine Off.mix2 ?_ rfl)), Look.here⟩
        refine Seq.p rfl Ev.move ?_
        refine Seq.andG (D := [57, 58, 59, 60, 61, 62]) (d := 57) (t := 62) (k := 5) (hn := fun h57 => ?_) (hx := ?_)
        · repeat (first | refine Seq.gn rfl rfl rfl rfl ?_ | refine Seq.gu rfl rfl rfl ?_)
          refine Seq.p rfl Ev.pickF ?_
          exact Seq.nil ⟨rfl, (by repeat (first | with_reducible exact Off.refl | refine Off.upd ?_ rfl | exact Off.mix | refine Off.mix2 ?_ rfl)), Look.here⟩
        apply Exists.intro
        refine ⟨fun h57 => ?_, fun u62 => ?_⟩
        · try simp only [decide_eq_true_eq, decide_eq_false_iff_not, Bool.and_eq_true, Bool.or_eq_true, Bool.not_eq_true', Bool.not_eq_false', Bool.or_eq_false_iff, Bool.and_eq_false_imp] at h57
          refine Seq.gy rfl rfl rfl ?_
          refine Seq.p rfl Ev.move ?_
          refine Seq.gy rfl rfl rfl ?_
          refine Seq.p rfl (Ev.iaN sl.sl_uint8 (i := 4) (hr := hsubT.r) (hi := by rw [hT]; decide)) ?_
          refine Seq.gy rfl rfl rfl ?_
          refine Seq.p rfl (Ev.ldE1 sc.uint8 (i := 4) (hr := hsubT.r) (hi := by rw [hT]; decide)) ?_
          refine Seq.gy rfl rfl rfl ?_
          refine Seq.p rfl Ev.le ?_
          refine Seq.p rfl Ev.pickT ?_
          exact Seq.nil ⟨rfl, (by repeat (first | with_reducible exact Off.refl | refine Off.upd ?_ rfl | exact Off.mix | refine Off.mix2 ?_ rfl)), Look.here⟩
        refine Seq.p rfl Ev.move ?_
        refine Seq.andG (D := [63, 64, 65, 66, 67, 68]) (d := 63) (t := 68) (k := 5) (hn := fun h63 => ?_) (hx := ?_)
        · repeat (first | refine Seq.gn rfl rfl rfl rfl ?_ | refine Seq.gu rfl rfl rfl ?_)
          refine Seq.p rfl Ev.pickF ?_
          exact Seq.nil ⟨rfl, (by repeat (first | with_reducible exact Off.refl | refine Off.upd ?_ rfl | exact Off.mix | refine Off.mix2 ?_ rfl)), Look.here⟩
        apply Exists.intro
        refine ⟨fun h63 => ?_, fun u68 => ?_⟩
        · try simp only [decide_eq_true_eq, decide_eq_false_iff_not, Bool.and_eq_true, Bool.or_eq_true, Bool.not_eq_true', Bool.not_eq_false', Bool.or_eq_false_iff, Bool.and_eq_false_imp] at h63
          refine Seq.gy rfl rfl rfl ?_
          refine Seq.p rfl Ev.move ?_
          refine Seq.gy rfl rfl rfl ?_
          refine Seq.p rfl (Ev.iaN sl.sl_uint8 (i := 5) (hr := hsubT.r) (hi := by rw [hT]; decide)) ?_
          refine Seq.gy rfl rfl rfl ?_
          refine Seq.p rfl (Ev.ldE1 sc.uint8 (i := 5) (hr := hsubT.r) (hi := by rw [hT]; decide)) ?_
          refine Seq.gy rfl rfl rfl ?_
          refine Seq.p rfl Ev.ge ?_
          refine Seq.p rfl Ev.pickT ?_
          exact Seq.nil ⟨rfl, (by repeat (first | with_reducible exact Off.refl | refine Off.upd ?_ rfl | exact Off.mix | refine Off.mix2 ?_ rfl)), Look.here⟩
        refine Seq.p rfl Ev.move ?_
        refine Seq.andG (D := [69, 70, 71, 72, 73, 74]) (d := 69) (t := 74) (k := 5) (hn := fun h69 => ?_) (hx := ?_)
        · repeat (first | refine Seq.gn rfl rfl rfl rfl ?_ | refine Seq.gu rfl rfl rfl ?_)
          refine Seq.p rfl Ev.pickF ?_
          exact Seq.nil ⟨rfl, (by repeat (first | with_reducible exact Off.refl | refine Off.upd ?_ rfl | exact Off.mix | refine Off.mix2 ?_ rfl)), Look.here⟩
        apply Exists.intro
        refine ⟨fun h69 => ?_, fun u74 => ?_⟩
        · try simp only [decide_eq_true_eq, decide_eq_false_iff_not, Bool.and_eq_true, Bool.or_eq_true, Bool.not_eq_true', Bool.not_eq_false', Bool.or_eq_false_iff, Bool.and_eq_false_imp] at h69
          refine Seq.gy rfl rfl rfl ?_
          refine Seq.p rfl Ev.move ?_
          refine Seq.gy rfl rfl rfl ?_
          refine Seq.p rfl (Ev.iaN sl.sl_uint8 (i := 5) (hr := hsubT.r) (hi := by rw [hT]; decide)) ?_
          refine Seq.gy rfl rfl rfl ?_
          refine Seq.p rfl (Ev.ldE1 sc.uint8 (i := 5) (hr := hsubT.r) (hi := by rw [hT]; decide)) ?_
          refine Seq.gy rfl rfl rfl ?_
          refine Seq.p rfl Ev.le ?_
          refine Seq.p rfl Ev.pickT ?_
          exact Seq.nil ⟨rfl, (by repeat (first | with_reducible exact Off.refl | refine Off.upd ?_ rfl | exact Off.mix | refine Off.mix2 ?_ rfl)), Look.here⟩
        refine Seq.p rfl Ev.assign ?_
        refine Seq.nil ?_
        refine JC.seq ?_
        refine JC.rs ?_
        refine Seq.p rfl Ev.move ?_
        refine Seq.p rfl (Ev.cut sl.sl_uint8 (hr := hsubT.r) (l := 0) (h := 3) (hlo := rfl) (hhi := ⟨_, (by repeat (first | exact Look.here | apply Look.there (hne := rfl) | exact Look.const | apply Look.mix rfl | exact Look.arg0 | apply Look.args | exact Look.func))⟩)) ?_
        refine Seq.p rfl (Ev.strOf (l := T.take 3) sl.sl_uint8 it.uint8 st.string (hr := hTs.r)) ?_
        refine Seq.p rfl Ev.neStr ?_
        refine Seq.p rfl Ev.move ?_
        refine Seq.orG (D := [79, 80, 81, 82]) (d := 79) (t := 82) (k := 3) (hn := fun h79 => ?_) (hx := ?_)
        · repeat (first | refine Seq.gn rfl rfl rfl rfl ?_ | refine Seq.gu rfl rfl rfl ?_)
          refine Seq.p rfl Ev.pickT ?_
          exact Seq.nil ⟨rfl, (by repeat (first | with_reducible exact Off.refl | refine Off.upd ?_ rfl | exact Off.mix | refine Off.mix2 ?_ rfl)), Look.here⟩
        apply Exists.intro
        refine ⟨fun h79 => ?_, fun u82 => ?_⟩
        · try simp only [decide_eq_true_eq, decide_eq_false_iff_not, Bool.and_eq_true, Bool.or_eq_true, Bool.not_eq_true', Bool.not_eq_false', Bool.or_eq_false_iff, Bool.and_eq_false_imp] at h79
          refine Seq.gy rfl rfl rfl ?_
          refine Seq.p rfl Ev.move ?_
          refine Seq.gy rfl rfl rfl ?_
          refine Seq.p rfl Ev.not ?_
          refine Seq.p rfl Ev.pickF ?_
          exact Seq.nil ⟨rfl, (by repeat (first | with_reducible exact Off.refl | refine Off.upd ?_ rfl | exact Off.mix | refine Off.mix2 ?_ rfl)), Look.here⟩
        refine Seq.p rfl Ev.move ?_
        refine Seq.orG (D := [83, 84, 85, 86, 87, 88]) (d := 83) (t := 88) (k := 5) (hn := fun h83 => ?_) (hx := ?_)
        · repeat (first | refine Seq.gn rfl rfl rfl rfl ?_ | refine Seq.gu rfl rfl rfl ?_)
          refine Seq.p rfl Ev.pickT ?_
          exact Seq.nil ⟨rfl, (by repeat (first | with_reducible exact Off.refl | refine Off.upd ?_ rfl | exact Off.mix | refine Off.mix2 ?_ rfl)), Look.here⟩
        apply Exists.intro
        refine ⟨fun h83 => ?_, fun u88 => ?_⟩
        · try simp only [decide_eq_true_eq, decide_eq_false_iff_not, Bool.and_eq_true, Bool.or_eq_true, Bool.not_eq_true', Bool.not_eq_false', Bool.or_eq_false_iff, Bool.and_eq_false_imp] at h83
          refine Seq.gy rfl rfl rfl ?_
          refine Seq.p rfl Ev.move ?_
          refine Seq.gy rfl rfl rfl ?_
          refine Seq.p rfl (Ev.iaN sl.sl_uint8 (i := 6) (hr := hsubT.r) (hi := by rw [hT]; decide)) ?_
          refine Seq.gy rfl rfl rfl ?_
          refine Seq.p rfl (Ev.ldE1 sc.uint8 (i := 6) (hr := hsubT.r) (hi := by rw [hT]; decide)) ?_
          refine Seq.gy rfl rfl rfl ?_
          refine Seq.p rfl Ev.ne ?_
          refine Seq.p rfl Ev.pickF ?_
          exact Seq.nil ⟨rfl, (by repeat (first | with_reducible exact Off.refl | refine Off.upd ?_ rfl | exact Off.mix | refine Off.mix2 ?_ rfl)), Look.here⟩
        refine Seq.p rfl Ev.move ?_
        refine Seq.orG (D := [89, 90, 91, 92]) (d := 89) (t := 92) (k := 3) (hn := fun h89 => ?_) (hx := ?_)
        · repeat (first | refine Seq.gn rfl rfl rfl rfl ?_ | refine Seq.gu rfl rfl rfl ?_)
          refine Seq.p rfl Ev.pickT ?_
          exact Seq.nil ⟨rfl, (by repeat (first | with_reducible exact Off.refl | refine Off.upd ?_ rfl | exact Off.mix | refine Off.mix2 ?_ rfl)), Look.here⟩
        apply Exists.intro
        refine ⟨fun h89 => ?_, fun u92 => ?_⟩
        · try simp only [decide_eq_true_eq, decide_eq_false_iff_not, Bool.and_eq_true, Bool.or_eq_true, Bool.not_eq_true', Bool.not_eq_false', Bool.or_eq_false_iff, Bool.and_eq_false_imp] at h89
          refine Seq.gy rfl rfl rfl ?_
          refine Seq.p rfl Ev.move ?_
          refine Seq.gy rfl rfl rfl ?_
          refine Seq.p rfl Ev.eq ?_
          refine Seq.p rfl Ev.pickF ?_
          exact Seq.nil ⟨rfl, (by repeat (first | with_reducible exact Off.refl | refine Off.upd ?_ rfl | exact Off.mix | refine Off.mix2 ?_ rfl)), Look.here⟩
        refine Seq.p rfl Ev.move ?_
        refine Seq.orG (D := [93, 94, 95, 96, 97, 98, 99, 100]) (d := 93) (t := 100) (k := 7) (hn := fun h93 => ?_) (hx := ?_)
        · repeat (first | refine Seq.gn rfl rfl rfl rfl ?_ | refine Seq.gu rfl rfl rfl ?_)
          refine Seq.p rfl Ev.pickT ?_
          exact Seq.nil ⟨rfl, (by repeat (first | with_reducible exact Off.refl | refine Off.upd ?_ rfl | exact Off.mix | refine Off.mix2 ?_ rfl)), Look.here⟩
        apply Exists.intro
        refine ⟨fun h93 => ?_, fun u100 => ?_⟩
        · try simp only [decide_eq_true_eq, decide_eq_false_iff_not, Bool.and_eq_true, Bool.or_eq_true, Bool.not_eq_true', Bool.not_eq_false', Bool.or_eq_false_iff, Bool.and_eq_false_imp] at h93
          refine Seq.gy rfl rfl rfl ?_
          refine Seq.p rfl Ev.move ?_
          refine Seq.gy rfl rfl rfl ?_
          refine Seq.p rfl Ev.move ?_
          refine Seq.gy rfl rfl rfl ?_
          refine Seq.p rfl (Ev.dec (m := f + k)) ?_
          refine Seq.gy rfl rfl rfl ?_
          refine Seq.p rfl (Ev.iaN sl.sl_uint8 (hr := hr.r)) ?_
          refine Seq.gy rfl rfl rfl ?_
          refine Seq.p rfl (Ev.ldE1 sc.uint8 (hr := hr.r)) ?_
          refine Seq.gy rfl rfl rfl ?_
          refine Seq.p rfl Ev.ne ?_
          refine Seq.p rfl Ev.pickF ?_
          exact Seq.nil ⟨rfl, (by repeat (first | with_reducible exact Off.refl | refine Off.upd ?_ rfl | exact Off.mix | refine Off.mix2 ?_ rfl)), Look.here⟩
        refine Seq.nil ?_
        first | refine JC.c (ht := fun c100 => ?_) (hf := fun c100 => ?_) | refine JC.cb (ht := fun c100 => ?_) (hf := fun c100 => ?_)
        · -- then_t100
          have hcc : trailB T = false ∨ k = 0 ∨ l[f + k - 1]! ≠ 1 := by
            obtain ⟨x0, x1, x2, x3, x4, x5, x6, rfl⟩ := seven hT
            rw [show strOf (List.take 3 [x0, x1, x2, x3, x4, x5, x6]) = strOf [x0, x1, x2] from rfl, show (⟨#[49, 48, 61]⟩ : ByteArray) = strOf [49, 48, 61] from rfl] at c100
            have hi := strOf_inj (a := [x0, x1, x2]) (b := [49, 48, 61]) (fun n hn => hBT n (by simp at hn ⊢; rcases hn with h | h | h <;> simp [h])) (by decide)
            rw [trailB_seven]
            generalize l[f + k - 1]! = y at c100 ⊢
            simp only [Bool.or_eq_true, Bool.not_eq_true', Bool.and_eq_false_iff, decide_eq_true_eq, decide_eq_false_iff_not, ne_eq, hi, digit, List.cons.injEq, and_true, Bool.and_eq_true] at c100 ⊢
            simp at c100
            omega
          refine JC.rs ?_
          refine Seq.p rfl Ev.move ?_
          refine Seq.callP rfl (fun w hw => refBad) ?_
          refine Seq.storeN [_, _, _, _, _, _] sz.bourseref03_Answer (k := ?_)
          refine Seq.nil ?_
          refine JC.ret ?_
          -- return 3
          show retQ _ _ _ _ _ _ _ _
          refine retB1 ag.bourseref03_Answer (H' := [nilC]) (hp := (by repeat (first | exact Part.refl _ | exact Part.nil _ | apply Part.here | apply Part.skip))) (hpost := ?_)
          rw [readF_body hh hs1 hs2 (by rw [hTg]; exact hcc)]
          exact ⟨none, 0, rfl, rfl⟩
        · -- else_t100
          have hcc : ¬ (trailB T = false ∨ k = 0 ∨ l[f + k - 1]! ≠ 1) := by
            obtain ⟨x0, x1, x2, x3, x4, x5, x6, rfl⟩ := seven hT
            rw [show strOf (List.take 3 [x0, x1, x2, x3, x4, x5, x6]) = strOf [x0, x1, x2] from rfl, show (⟨#[49, 48, 61]⟩ : ByteArray) = strOf [49, 48, 61] from rfl] at c100
            have hi := strOf_inj (a := [x0, x1, x2]) (b := [49, 48, 61]) (fun n hn => hBT n (by simp at hn ⊢; rcases hn with h | h | h <;> simp [h])) (by decide)
            rw [trailB_seven]
            generalize l[f + k - 1]! = y at c100 ⊢
            simp only [Bool.or_eq_false_iff, Bool.not_eq_false', Bool.and_eq_true, decide_eq_true_eq, decide_eq_false_iff_not, ne_eq, hi, digit, List.cons.injEq, and_true, Bool.and_eq_false_iff] at c100 ⊢
            simp at c100
            omega
          refine JC.skip ?_
          refine JC.seq ?_
          refine JC.qs mixed (by kernel_rfl) ?_
          refine Qui.p rfl Ev.move ?_
          refine Qui.p rfl (Ev.cut sl.sl_uint8 (hr := hsubT.r) (l := 3) (h := 6) (hlo := ⟨_, (by repeat (first | exact Look.here | apply Look.there (hne := rfl) | exact Look.const | apply Look.mix rfl | exact Look.arg0 | apply Look.args | exact Look.func))⟩) (hhi := ⟨_, (by repeat (first | exact Look.here | apply Look.there (hne := rfl) | exact Look.const | apply Look.mix rfl | exact Look.arg0 | apply Look.args | exact Look.func))⟩)) ?_
          refine Qui.p rfl (Ev.strOf (l := (T.drop 3).take 3) sl.sl_uint8 it.uint8 st.string (hr := hTd.r)) ?_
          refine Qui.p rfl Ev.move ?_
          refine Qui.p rfl Ev.move ?_
          refine Qui.p rfl (Ev.cut sl.sl_uint8 (hr := hr.r) (l := 0) (h := f + k) (hlo := rfl) (hhi := ⟨_, (by repeat (first | exact Look.here | apply Look.there (hne := rfl) | exact Look.const | apply Look.mix rfl | exact Look.arg0 | apply Look.args | exact Look.func))⟩)) ?_
          refine Qui.call rfl (fun w hw => refSum (hhead.up hw) (isBytes_take hB)) ?_
          refine Qui.call rfl (fun w hw => refThree (sumB_range (l.take (f + k)))) ?_
          refine Qui.p rfl Ev.neStr ?_
          refine Qui.nil ?_
          first | refine JC.c (ht := fun c111 => ?_) (hf := fun c111 => ?_) | refine JC.cb (ht := fun c111 => ?_) (hf := fun c111 => ?_)
          · -- then_t111
            have h4 : T ≠ lastL (l.take (f + k)) := fun h => c111 (by rw [(trail_last hT (by cases hb : trailB T with | true => rfl | false => exact absurd (.inl hb) hcc)).1 h])
            refine JC.rs ?_
            refine Seq.p rfl Ev.move ?_
            refine Seq.callP rfl (fun w hw => refBad) ?_
            refine Seq.storeN [_, _, _, _, _, _] sz.bourseref03_Answer (k := ?_)
            refine Seq.nil ?_
            refine JC.ret ?_
            -- return 4
            show retQ _ _ _ _ _ _ _ _
            refine retB1 ag.bourseref03_Answer (H' := [nilC]) (hp := (by repeat (first | exact Part.refl _ | exact Part.nil _ | apply Part.here | apply Part.skip))) (hpost := ?_)
            rw [readF_trail hh hs1 hs2 (by rw [hTg]; exact hcc) (by rw [hTg]; exact h4)]
            exact ⟨none, 0, rfl, rfl⟩
          · -- else_t111
            have h4 : ¬ T ≠ lastL (l.take (f + k)) := fun h => h ((trail_last hT (by cases hb : trailB T with | true => rfl | false => exact absurd (.inl hb) hcc)).2 ((strOf_inj (isBytes_take (isBytes_drop hBT)) (isBytes_three _)).1 (Classical.not_not.1 c111)))
            have hrd := readF_parts hh hs1 hs2 (by rw [hTg]; exact hcc) (by rw [hTg]; exact h4)
            have hb1 : l[f + k - 1]! = 1 := Classical.not_not.1 fun h => hcc (.inr (.inr h))
            obtain ⟨kind, xs, place, why, hpa, hz⟩ : ∃ kind xs place why, partsA (partsF l f (f + k) f ⟨#[]⟩ []) = ⟨kind, xs, place, why, 0⟩ ∧ readF l = ⟨kind, xs, if why = 0 then ((f + k + 7 : Nat) : Int) else place, why, f + k + 7⟩ := by
              rw [hrd]
              cases hq : partsF l f (f + k) f ⟨#[]⟩ [] with
              | bad p e => exact ⟨_, _, _, _, rfl, by simp only [partA]; rw [if_neg (partsF_why hq)]⟩
              | ok kind xs => exact ⟨_, _, _, _, rfl, rfl⟩
            refine JC.skip ?_
            refine JC.rs ?_
            refine Seq.p rfl Ev.move ?_
            refine Seq.p rfl Ev.move ?_
            refine Seq.p rfl Ev.move ?_
            refine Seq.call rfl (fun w' hw => refParts (hr.up hw) hB hl (by omega) (by omega) hb1) (F := _) (by exact List.Perm.refl _) ?_
            rw [hpa]
            rintro _ _ ⟨A1, c1, rfl, rfl⟩
            simp only [ansV]
            refine Seq.storeN [_, _, _, _, _, _] sz.bourseref03_Answer (k := ?_)
            refine Seq.nil ?_
            refine JC.rs ?_
            refine Seq.p rfl Ev.move ?_
            refine Seq.p rfl (Ev.addN (m := f + k) (c := 7)) ?_
            refine Seq.p rfl (Ev.faB fd.bourseref03_Answer_4) ?_
            refine Seq.storeN [_, _, _, _, _, _] sz.bool (k := ?_)
            refine Seq.p rfl (Ev.faB fd.bourseref03_Answer_5) ?_
            refine Seq.storeN [_, _, _, _, _, _] sz.int (k := ?_)
            refine Seq.nil ?_
            refine JC.seq ?_
            refine JC.rs ?_
            refine Seq.p rfl (Ev.faB fd.bourseref03_Answer_3) ?_
            refine Seq.p rfl (Ev.ldB sc.api_Errno) ?_
            refine Seq.p rfl Ev.eq ?_
            refine Seq.nil ?_
            first | refine JC.c (ht := fun c124 => ?_) (hf := fun c124 => ?_) | refine JC.cb (ht := fun c124 => ?_) (hf := fun c124 => ?_)
            · -- then_t124
              refine JC.reg ?_
              refine Seq.p rfl Ev.move ?_
              refine Seq.p rfl (Ev.addN (m := f + k) (c := 7)) ?_
              refine Seq.p rfl (Ev.faB fd.bourseref03_Answer_2) ?_
              refine Seq.storeN [_, _, _, _, _, _] sz.int (k := ?_)
              refine Seq.nil ?_
              refine JC.rs ?_
              refine Seq.p rfl (Ev.ldBA ag.bourseref03_Answer) ?_
              refine Seq.storeN [_, _, _, _, _, _] sz.bourseref03_Answer (k := ?_)
              refine Seq.nil ?_
              refine JC.ret ?_
              -- return 5
              show retQ _ _ _ _ _ _ _ _
              refine retB1 ag.bourseref03_Answer (H' := [tagsC (.slice A1 xs.length c1) xs]) (hp := (by repeat (first | exact Part.refl _ | exact Part.nil _ | apply Part.here | apply Part.skip))) (hpost := ?_)
              rw [hz]
              first | exact ⟨A1, c1, by rw [if_pos c124]; rfl, rfl⟩ | exact ⟨A1, c1, by rw [if_neg c124]; rfl, rfl⟩
            · -- else_t124
              refine JC.skip ?_
              refine JC.rs ?_
              refine Seq.p rfl (Ev.ldBA ag.bourseref03_Answer) ?_
              refine Seq.storeN [_, _, _, _, _, _] sz.bourseref03_Answer (k := ?_)
              refine Seq.nil ?_
              refine JC.ret ?_
              -- return 6
              show retQ _ _ _ _ _ _ _ _
              refine retB1 ag.bourseref03_Answer (H' := [tagsC (.slice A1 xs.length c1) xs]) (hp := (by repeat (first | exact Part.refl _ | exact Part.nil _ | apply Part.here | apply Part.skip))) (hpost := ?_)
              rw [hz]
              first | exact ⟨A1, c1, by rw [if_pos c124]; rfl, rfl⟩ | exact ⟨A1, c1, by rw [if_neg c124]; rfl, rfl⟩
set_option maxHeartbeats 1000000 in
set_option maxRecDepth 100000 in
theorem refDecode {w : World} {v : Value} {l : List Int} (hr : RSl byteEnc 1 w [] v l) (hB : isBytes l) (hl : l.length ≤ 281474976710656) :
    Spec Go.Proofs.Tryz.prog 23 #[v] w [] (fun u H' => ∃ A c, u = .tuple #[.string (readF l).kind, .slice A (readF l).tags.length c, .int .i64 (readF l).place, .int .i64 (readF l).why] ∧ H' = [tagsC (.slice A (readF l).tags.length c) (readF l).tags]) := by
  refine Spec.enter (fn := Go.Proofs.Tryz.f23) (n := 17) [v] Go.Proofs.Tryz.func23 (by kernel_rfl) rfl Go.Proofs.Tryz.ntmps23 Go.Proofs.Tryz.results23 rfl (Own.nil _) ?_
  refine JC.rs ?_
  refine Seq.p rfl Ev.assign ?_
  refine Seq.p rfl Ev.assign ?_
  refine Seq.p rfl Ev.assign ?_
  refine Seq.p rfl Ev.assign ?_
  refine Seq.nil ?_
  refine JC.rs ?_
  refine Seq.p rfl Ev.move ?_
  refine Seq.call rfl (fun w' hw => refRead (hr.up hw) hB hl) (F := _) (by exact List.Perm.refl _) ?_
  rintro _ _ ⟨A1, c1, rfl, rfl⟩
  simp only [ansV]
  refine Seq.alloc (cs := [_, _, _, _, _, _]) (hz := z.bourseref03_Answer) (k := ?_); intro b6
  refine Seq.storeN [_, _, _, _, _, _] sz.bourseref03_Answer (k := ?_)
  refine Seq.nil ?_
  refine JC.qs mixed (by kernel_rfl) ?_
  refine Qui.p rfl (Ev.faB fd.bourseref03_Answer_0) ?_
  refine Qui.p rfl (Ev.ldB sc.string) ?_
  refine Qui.p rfl (Ev.faB fd.bourseref03_Answer_1) ?_
  refine Qui.p rfl (Ev.ldB sc.sl_api_Tag) ?_
  refine Qui.p rfl (Ev.faB fd.bourseref03_Answer_2) ?_
  refine Qui.p rfl (Ev.ldB sc.int) ?_
  refine Qui.p rfl (Ev.faB fd.bourseref03_Answer_3) ?_
  refine Qui.p rfl (Ev.ldB sc.api_Errno) ?_
  refine Qui.p rfl Ev.assign ?_
  refine Qui.p rfl Ev.assign ?_
  refine Qui.p rfl Ev.assign ?_
  refine Qui.p rfl Ev.assign ?_
  refine Qui.nil ?_
  refine JC.ret ?_
  -- return 0
  show retQ _ _ _ _ _ _ _ _
  refine retI (RVs.t (hs := (RVs.t (hs := (RVs.t (hs := (RVs.t (hs := RVs.nil)))))))) (H' := [tagsC (.slice A1 (readF l).tags.length c1) (readF l).tags]) (by repeat (first | exact Part.refl _ | exact Part.nil _ | apply Part.here | apply Part.skip)) ?_
  exact ⟨A1, c1, rfl, rfl⟩
end Go.Rx
/- The program's reading of a line. -/
namespace Go.Rx
open Go Go.RowKit Go.Lib Go.Proofs.YthpejgmkiomfhaaGreatDoor
set_option linter.unusedVariables false
set_option linter.unusedSimpArgs false
def lineA (r : ReadA) (A : Option Addr) (c : Nat) : Value := .agg #[.string r.kind, .slice A r.tags.length c, .int .i64 (r.size : Int), .int .i64 (if r.why = 0 then 0 else r.place)]
theorem frameV_form (l : List Int) : ∃ sz0 pl fr to c, frameV l (headF l) = .tuple #[lineV sz0 pl, .int .i64 fr, .int .i64 to, .int .i64 c] ∧
    ((c ≠ 0 ∧ sz0 = 0 ∧ readF l = badA pl c) ∨ (c = 0 ∧ ∃ f k : Nat, headF l = .ok f k ∧ ¬ 2048 < f + k + 7 ∧ ¬ l.length < f + k + 7 ∧ sz0 = ((f + k + 7 : Nat) : Int) ∧ pl = 0 ∧ fr = (f : Int) ∧ to = ((f + k : Nat) : Int) ∧ 11 ≤ f ∧ f ≤ 16 ∧ k < 10000)) := by
  cases h : headF l with
  | bad a c => exact ⟨0, a, 0, 0, c, rfl, .inl ⟨head_why h, rfl, readF_bad h⟩⟩
  | ok f k =>
    rw [frameV_ok]
    by_cases h1 : 2048 < f + k + 7
    · rw [if_pos h1]
      exact ⟨0, 10, 0, 0, 2, rfl, .inl ⟨by decide, rfl, readF_long h h1⟩⟩
    · rw [if_neg h1]
      by_cases h2 : l.length < f + k + 7
      · rw [if_pos h2]
        exact ⟨0, l.length, 0, 0, 20, rfl, .inl ⟨by decide, rfl, readF_short h h1 h2⟩⟩
      · rw [if_neg h2]
        exact ⟨_, 0, _, _, 0, rfl, .inr ⟨rfl, f, k, rfl, h1, h2, rfl, rfl, rfl, rfl, head_from h⟩⟩
theorem readF_cases (l : List Int) : (∃ a c, readF l = badA a c ∧ c ≠ 0) ∨ ∃ f k, headF l = .ok f k ∧ readF l = partA (f + k + 7) (partsF l f (f + k) f ⟨#[]⟩ []) := by
  unfold readF
  split
  · rename_i a c h
    exact .inl ⟨a, c, rfl, head_why h⟩
  · rename_i f k h
    split
    · exact .inl ⟨_, _, rfl, by decide⟩
    · split
      · exact .inl ⟨_, _, rfl, by decide⟩
      · split
        · exact .inl ⟨_, _, rfl, by decide⟩
        · split
          · exact .inl ⟨_, _, rfl, by decide⟩
          · exact .inr ⟨f, k, h, rfl⟩
theorem readF_bad_form {l : List Int} (h : (readF l).why ≠ 0) : (readF l).kind = ⟨#[]⟩ ∧ (readF l).tags = [] := by
  rcases readF_cases l with ⟨a, c, h1, _⟩ | ⟨f, k, _, h1⟩
  · rw [h1]; exact ⟨rfl, rfl⟩
  · rw [h1] at h ⊢
    cases hp : partsF l f (f + k) f ⟨#[]⟩ [] with
    | bad p e => exact ⟨rfl, rfl⟩
    | ok kind xs => rw [hp] at h; exact absurd rfl h
theorem readF_ok_place {l : List Int} (h : (readF l).why = 0) : (readF l).place = ((readF l).size : Int) := by
  rcases readF_cases l with ⟨a, c, h1, h2⟩ | ⟨f, k, _, h1⟩
  · rw [h1] at h; exact absurd h h2
  · rw [h1] at h ⊢
    cases hp : partsF l f (f + k) f ⟨#[]⟩ [] with
    | bad p e => rw [hp] at h; exact absurd h (partsF_why hp)
    | ok kind xs => rfl
theorem take_field {l : List Int} {p : Nat} : (l.drop p).take (firstF 1 (l.drop p)) = fieldAt l p := rfl
set_option maxHeartbeats 4000000 in
set_option maxRecDepth 100000 in
theorem textRead {w : World} {v : Value} {l : List Int} (hr : RSl byteEnc 1 w [] v l) (hB : isBytes l) (hl : l.length ≤ 281474976710656) (hL : Laid w) :
    Spec Go.Proofs.Tryz.prog 45 #[v] w [] (fun u H' => ∃ A c, u = .tuple #[lineA (readF l) A c, .int .i64 (readF l).why] ∧ H' = [tagsC (.slice A (readF l).tags.length c) (readF l).tags]) := by
  obtain ⟨sz0, pl, fr, to, c0, hfv, hfacts⟩ := frameV_form l
  refine Spec.enter (fn := Go.Proofs.Tryz.f45) (n := 88) [v] Go.Proofs.Tryz.func45 (by kernel_rfl) rfl Go.Proofs.Tryz.ntmps45 Go.Proofs.Tryz.results45 rfl (Own.nil _) ?_
  refine JC.re (fun w h => (h.nilOwn 74 2).nilOwn 74 2) ?_
  refine JC.rs ?_
  refine Seq.alloc (cs := [_, _, _, _]) (hz := z.text_line) (k := ?_); intro b2
  refine Seq.p rfl Ev.assign ?_
  refine Seq.nil ?_
  refine JC.rs ?_
  refine Seq.p rfl Ev.move ?_
  refine Seq.callP rfl (fun w hw => hfv ▸ textFrame (hr.up hw) hB (hL.upd hw)) ?_
  refine Seq.p rfl Ev.move ?_
  refine Seq.p rfl Ev.extract ?_
  refine Seq.p rfl Ev.extract ?_
  refine Seq.p rfl Ev.extract ?_
  refine Seq.p rfl Ev.extract ?_
  refine Seq.alloc (cs := [_, _, _, _]) (hz := z.text_line) (k := ?_); intro b4
  refine Seq.storeN [_, _, _, _] sz.text_line (k := ?_)
  refine Seq.p rfl Ev.assign ?_
  refine Seq.p rfl Ev.assign ?_
  refine Seq.p rfl Ev.assign ?_
  refine Seq.nil ?_
  refine JC.seq ?_
  refine JC.rs ?_
  refine Seq.p rfl Ev.move ?_
  refine Seq.p rfl Ev.ne ?_
  refine Seq.nil ?_
  first | refine JC.c (ht := fun c19 => ?_) (hf := fun c19 => ?_) | refine JC.cb (ht := fun c19 => ?_) (hf := fun c19 => ?_)
  · -- then_t19
    refine JC.rs ?_
    refine Seq.p rfl (Ev.ldBA ag.text_line) ?_
    refine Seq.p rfl Ev.move ?_
    refine Seq.storeN [_, _, _, _] sz.text_line (k := ?_)
    refine Seq.p rfl Ev.assign ?_
    refine Seq.nil ?_
    refine JC.ret ?_
    -- return 0
    show retQ _ _ _ _ _ _ _ _
    refine retB2 ag.text_line (H' := [nilC]) (hp := (by repeat (first | exact Part.refl _ | exact Part.nil _ | apply Part.here | apply Part.skip))) (hpost := ?_)
    rcases hfacts with ⟨h1, rfl, h2⟩ | ⟨h1, _⟩
    · rw [h2]; exact ⟨none, 0, by unfold lineA badA; simp only; rw [if_neg h1]; rfl, rfl⟩
    · exact absurd h1 c19
  · -- else_t19
    obtain ⟨rfl, f, k, hh, hs1, hs2, rfl, rfl, rfl, rfl, hf1, hf2, hk⟩ : c0 = 0 ∧ ∃ f k : Nat, headF l = .ok f k ∧ ¬ 2048 < f + k + 7 ∧ ¬ l.length < f + k + 7 ∧ sz0 = ((f + k + 7 : Nat) : Int) ∧ pl = 0 ∧ fr = (f : Int) ∧ to = ((f + k : Nat) : Int) ∧ 11 ≤ f ∧ f ≤ 16 ∧ k < 10000 := by
      rcases hfacts with ⟨h1, _⟩ | h
      · exact absurd h1 c19
      · exact h
    have hT : ((l.drop (f + k)).take 7).length = 7 := by rw [List.length_take, List.length_drop]; omega
    have hBT : isBytes ((l.drop (f + k)).take 7) := isBytes_take (isBytes_drop hB)
    have hsubT : RSl byteEnc 1 w [] (subSl v (f + k) (f + k + 7) 1) ((l.drop (f + k)).take 7) := by
      have h2 := hr.sub (lo := f + k) (hi := f + k + 7) (by omega) (by omega)
      rwa [show f + k + 7 - (f + k) = 7 by omega] at h2
    have hhead : RSl byteEnc 1 w [] (subSl v 0 (f + k) 1) (l.take (f + k)) := by
      have h2 := hr.sub (lo := 0) (hi := f + k) (by omega) (by omega)
      rwa [List.drop_zero] at h2
    generalize hTg : (l.drop (f + k)).take 7 = T at hT hBT hsubT
    refine JC.skip ?_
    refine JC.seq ?_
    refine JC.blk ?_
    refine JC.rs ?_
    refine Seq.p rfl Ev.move ?_
    refine Seq.p rfl Ev.move ?_
    refine Seq.p rfl (Ev.faB fd.text_line_2) ?_
    refine Seq.p rfl (Ev.ldB sc.int) ?_
    refine Seq.p rfl (Ev.cut sl.sl_uint8 (hr := hr.r) (l := f + k) (h := f + k + 7) (hlo := ⟨_, (by repeat (first | exact Look.here | apply Look.there (hne := rfl) | exact Look.const | apply Look.mix rfl | exact Look.arg0 | apply Look.args | exact Look.func))⟩) (hhi := ⟨_, (by repeat (first | exact Look.here | apply Look.there (hne := rfl) | exact Look.const | apply Look.mix rfl | exact Look.arg0 | apply Look.args | exact Look.func))⟩)) ?_
    refine Seq.callP rfl (fun w hw => textTrailed (hsubT.up hw) hBT hT) ?_
    refine Seq.p rfl Ev.not ?_
    refine Seq.p rfl Ev.move ?_
    refine Seq.orG (D := [30, 31, 32, 33, 34]) (d := 30) (t := 34) (k := 4) (hn := fun h30 => ?_) (hx := ?_)
    · repeat (first | refine Seq.gn rfl rfl rfl rfl ?_ | refine Seq.gu rfl rfl rfl ?_)
      refine Seq.p rfl Ev.pickT ?_
      exact Seq.nil ⟨rfl, (by repeat (first | with_reducible exact Off.refl | refine Off.upd ?_ rfl | exact Off.mix | refine Off.mix2 ?_ rfl)), Look.here⟩
    apply Exists.intro
    refine ⟨fun h30 => ?_, fun u34 => ?_⟩
    · try simp only [decide_eq_true_eq, decide_eq_false_iff_not, Bool.and_eq_true, Bool.or_eq_true, Bool.not_eq_true', Bool.not_eq_false', Bool.or_eq_false_iff, Bool.and_eq_false_imp] at h30
      refine Seq.gy rfl rfl rfl ?_
      refine Seq.p rfl Ev.move ?_
      refine Seq.gy rfl rfl rfl ?_
      refine Seq.p rfl Ev.move ?_
      refine Seq.gy rfl rfl rfl ?_
      refine Seq.p rfl Ev.eq ?_
      refine Seq.p rfl Ev.pickF ?_
      exact Seq.nil ⟨rfl, (by repeat (first | with_reducible exact Off.refl | refine Off.upd ?_ rfl | exact Off.mix | refine Off.mix2 ?_ rfl)), Look.here⟩
    refine Seq.p rfl Ev.move ?_
    refine Seq.orG (D := [35, 36, 37, 38, 39, 40, 41, 42]) (d := 35) (t := 42) (k := 7) (hn := fun h35 => ?_) (hx := ?_)
    · repeat (first | refine Seq.gn rfl rfl rfl rfl ?_ | refine Seq.gu rfl rfl rfl ?_)
      refine Seq.p rfl Ev.pickT ?_
      exact Seq.nil ⟨rfl, (by repeat (first | with_reducible exact Off.refl | refine Off.upd ?_ rfl | exact Off.mix | refine Off.mix2 ?_ rfl)), Look.here⟩
    apply Exists.intro
    refine ⟨fun h35 => ?_, fun u42 => ?_⟩
    · try simp only [decide_eq_true_eq, decide_eq_false_iff_not, Bool.and_eq_true, Bool.or_eq_true, Bool.not_eq_true', Bool.not_eq_false', Bool.or_eq_false_iff, Bool.and_eq_false_imp] at h35
      refine Seq.gy rfl rfl rfl ?_
      refine Seq.p rfl Ev.move ?_
      refine Seq.gy rfl rfl rfl ?_
      refine Seq.p rfl Ev.move ?_
      refine Seq.gy rfl rfl rfl ?_
      refine Seq.p rfl (Ev.dec (m := f + k)) ?_
      refine Seq.gy rfl rfl rfl ?_
      refine Seq.p rfl (Ev.iaN sl.sl_uint8 (hr := hr.r)) ?_
      refine Seq.gy rfl rfl rfl ?_
      refine Seq.p rfl (Ev.ldE1 sc.uint8 (hr := hr.r)) ?_
      refine Seq.gy rfl rfl rfl ?_
      refine Seq.p rfl Ev.ne ?_
      refine Seq.p rfl Ev.pickF ?_
      exact Seq.nil ⟨rfl, (by repeat (first | with_reducible exact Off.refl | refine Off.upd ?_ rfl | exact Off.mix | refine Off.mix2 ?_ rfl)), Look.here⟩
    refine Seq.p rfl Ev.assign ?_
    refine Seq.nil ?_
    first | refine JC.c (ht := fun c22 => ?_) (hf := fun c22 => ?_) | refine JC.cb (ht := fun c22 => ?_) (hf := fun c22 => ?_)
    · -- then_t22
      have hcc : trailB T = false ∨ k = 0 ∨ l[f + k - 1]! ≠ 1 := by
        simp only [Bool.or_eq_true, Bool.not_eq_true', decide_eq_true_eq] at c22
        rcases c22 with (h | h) | h
        · exact .inl h
        · exact .inr (.inl (by omega))
        · exact .inr (.inr h)
      refine JC.rs ?_
      refine Seq.p rfl Ev.move ?_
      refine Seq.p rfl (Ev.buildN [_, _, _, _] pl.text_line z.text_line) ?_
      refine Seq.storeN [_, _, _, _] sz.text_line (k := ?_)
      refine Seq.p rfl Ev.assign ?_
      refine Seq.nil ?_
      refine JC.ret ?_
      -- return 1
      show retQ _ _ _ _ _ _ _ _
      refine retB2 ag.text_line (H' := [nilC]) (hp := (by repeat (first | exact Part.refl _ | exact Part.nil _ | apply Part.here | apply Part.skip))) (hpost := ?_)
      rw [readF_body hh hs1 hs2 (by rw [hTg]; exact hcc)]
      exact ⟨none, 0, rfl, rfl⟩
    · -- else_t22
      have hcc : ¬ (trailB T = false ∨ k = 0 ∨ l[f + k - 1]! ≠ 1) := by
        simp only [Bool.or_eq_false_iff, Bool.not_eq_false', decide_eq_false_iff_not] at c22
        rintro (h | h | h)
        · rw [c22.1.1] at h; cases h
        · exact c22.1.2 (by omega)
        · exact c22.2 h
      refine JC.qs mixed (by kernel_rfl) ?_
      refine Qui.p rfl Ev.move ?_
      refine Qui.p rfl Ev.move ?_
      refine Qui.p rfl (Ev.faB fd.text_line_2) ?_
      refine Qui.p rfl (Ev.ldB sc.int) ?_
      refine Qui.p rfl (Ev.cut sl.sl_uint8 (hr := hr.r) (l := f + k) (h := f + k + 7) (hlo := ⟨_, (by repeat (first | exact Look.here | apply Look.there (hne := rfl) | exact Look.const | apply Look.mix rfl | exact Look.arg0 | apply Look.args | exact Look.func))⟩) (hhi := ⟨_, (by repeat (first | exact Look.here | apply Look.there (hne := rfl) | exact Look.const | apply Look.mix rfl | exact Look.arg0 | apply Look.args | exact Look.func))⟩)) ?_
      refine Qui.p rfl (Ev.strOf (l := T) sl.sl_uint8 it.uint8 st.string (hr := hsubT.r)) ?_
      refine Qui.p rfl Ev.move ?_
      refine Qui.p rfl Ev.move ?_
      refine Qui.p rfl (Ev.cut sl.sl_uint8 (hr := hr.r) (l := 0) (h := f + k) (hlo := rfl) (hhi := ⟨_, (by repeat (first | exact Look.here | apply Look.there (hne := rfl) | exact Look.const | apply Look.mix rfl | exact Look.arg0 | apply Look.args | exact Look.func))⟩)) ?_
      refine Qui.call rfl (fun w hw => textLast (hhead.up hw) (isBytes_take hB) (hL.upd hw)) ?_
      refine Qui.p rfl Ev.neStr ?_
      refine Qui.p rfl Ev.assign ?_
      refine Qui.nil ?_
      first | refine JC.c (ht := fun c45 => ?_) (hf := fun c45 => ?_) | refine JC.cb (ht := fun c45 => ?_) (hf := fun c45 => ?_)
      · -- then_t45
        have h4 : T ≠ lastL (l.take (f + k)) := fun h => c45 (by rw [h])
        refine JC.rs ?_
        refine Seq.p rfl Ev.move ?_
        refine Seq.p rfl (Ev.buildN [_, _, _, _] pl.text_line z.text_line) ?_
        refine Seq.storeN [_, _, _, _] sz.text_line (k := ?_)
        refine Seq.p rfl Ev.assign ?_
        refine Seq.nil ?_
        refine JC.ret ?_
        -- return 2
        show retQ _ _ _ _ _ _ _ _
        refine retB2 ag.text_line (H' := [nilC]) (hp := (by repeat (first | exact Part.refl _ | exact Part.nil _ | apply Part.here | apply Part.skip))) (hpost := ?_)
        rw [readF_trail hh hs1 hs2 (by rw [hTg]; exact hcc) (by rw [hTg]; exact h4)]
        exact ⟨none, 0, rfl, rfl⟩
      · -- else_t45
        have h4 : ¬ T ≠ lastL (l.take (f + k)) := fun h => h ((strOf_inj hBT (isBytes_last _)).1 (Classical.not_not.1 c45))
        have hrd := readF_parts hh hs1 hs2 (by rw [hTg]; exact hcc) (by rw [hTg]; exact h4)
        have hb1 : l[f + k - 1]! = 1 := Classical.not_not.1 fun h => hcc (.inr (.inr h))
        refine JC.skip ?_
        refine JC.seq ?_
        refine JC.rs ?_
        refine Seq.p rfl Ev.move ?_
        refine Seq.p rfl Ev.assign ?_
        refine Seq.nil ?_
        refine JC.blk ?_
        refine JC.part (H' := [lineC b4 ⟨#[]⟩ (.slice none 0 0) ((f + k + 7 : Nat) : Int) 0, tagsC (.slice none 0 0) [], lineC b2 ⟨#[]⟩ (.slice none 0 0) 0 0, nilC]) ⟨[], (List.Perm.swap _ _ _).cons _⟩ ?_
        refine JC.loop (α := Nat) (I := fun p e1 H1 => ∃ kind A c xs, Has [3, 8, 9, 10, 60, 61, 62, 63, 64, 65, 66, 67, 68, 69, 70, 71, 72, 73, 74, 75, 76, 77, 78, 79, 80, 81, 82, 83, 84, 85, 86] [(8, .int .i64 (p : Int))] _ e1 ∧ H1 = [lineC b4 kind (.slice A xs.length c) ((f + k + 7 : Nat) : Int) 0, tagsC (.slice A xs.length c) xs, lineC b2 ⟨#[]⟩ (.slice none 0 0) 0 0, nilC] ∧ f ≤ p ∧ p ≤ f + k ∧ xs.length ≤ 64 ∧ partsF l f (f + k) p kind xs = partsF l f (f + k) f ⟨#[]⟩ []) (μ := fun p => f + k - p) f ⟨⟨#[]⟩, none, 0, [], Has.mk Off.refl (allLook_cons (by repeat (first | exact Look.here | apply Look.there (hne := rfl) | exact Look.const | apply Look.mix rfl | exact Look.arg0 | apply Look.args | exact Look.func)) allLook_nil), rfl, by omega, by omega, by simp, rfl⟩ ?_
        rintro p _ _ ⟨kind, A, c, xs, ⟨u, rfl⟩, rfl, hfp, hpt, hx, hq⟩; dsimp only [setL]
        refine JC.seq ?_
        refine JC.rs ?_
        refine Seq.p rfl Ev.move ?_
        refine Seq.p rfl Ev.move ?_
        refine Seq.p rfl Ev.lt ?_
        refine Seq.nil ?_
        first | refine JC.c (ht := fun c62 => ?_) (hf := fun c62 => ?_) | refine JC.cb (ht := fun c62 => ?_) (hf := fun c62 => ?_)
        · -- then_t62
          have hp : p < f + k := by omega
          have hin := first_in hp (by omega) hb1
          have hlen : (l.drop p).length = l.length - p := List.length_drop ..
          have hFl := fieldAt_len (l := l) (p := p)
          have hsubD : RSl byteEnc 1 w [] (subSl v p l.length 1) (l.drop p) := by
            have h2 := hr.sub (lo := p) (hi := l.length) (by omega) (by omega)
            rwa [List.take_of_length_le (by rw [hlen]; omega)] at h2
          have hsubF : RSl byteEnc 1 w [] (subSl v p (p + firstF 1 (l.drop p)) 1) (fieldAt l p) := by
            have h2 := hr.sub (lo := p) (hi := p + firstF 1 (l.drop p)) (by omega) (by omega)
            rwa [show p + firstF 1 (l.drop p) - p = firstF 1 (l.drop p) by omega] at h2
          obtain ⟨A3, c3, hv3, hc3, hA3⟩ := hsubD.shape
          have hsubD2 := hsubD
          rw [hv3] at hsubD2
          refine JC.skip ?_
          refine JC.blk ?_
          refine JC.rs ?_
          refine Seq.p rfl Ev.move ?_
          refine Seq.p rfl Ev.move ?_
          refine Seq.p rfl Ev.move ?_
          refine Seq.p rfl (Ev.cut sl.sl_uint8 (hr := hr.r) (l := p) (h := l.length) (hlo := ⟨_, (by repeat (first | exact Look.here | apply Look.there (hne := rfl) | exact Look.const | apply Look.mix rfl | exact Look.arg0 | apply Look.args | exact Look.func))⟩) (hhi := rfl)) ?_
          rw [hv3]
          refine Seq.callP (v := .int .i64 (firstF 1 (l.drop p) : Int)) rfl (fun w' hw => by have h2 := textIndexByte (hsubD2.up hw) (by intro h0; rw [h0] at hlen; simp at hlen; omega) (isBytes_drop hB); rwa [if_pos (by omega)] at h2) ?_
          refine Seq.p rfl (Ev.addN (m := p) (c := firstF 1 (l.drop p))) ?_
          refine Seq.p rfl Ev.assign ?_
          refine Seq.nil ?_
          refine JC.seq ?_
          refine JC.rs ?_
          refine Seq.p rfl Ev.move ?_
          refine Seq.p rfl Ev.move ?_
          refine Seq.p rfl Ev.move ?_
          refine Seq.p rfl (Ev.cut sl.sl_uint8 (hr := hr.r) (l := p) (h := p + firstF 1 (l.drop p)) (hlo := ⟨_, (by repeat (first | exact Look.here | apply Look.there (hne := rfl) | exact Look.const | apply Look.mix rfl | exact Look.arg0 | apply Look.args | exact Look.func))⟩) (hhi := ⟨_, (by repeat (first | exact Look.here | apply Look.there (hne := rfl) | exact Look.const | apply Look.mix rfl | exact Look.arg0 | apply Look.args | exact Look.func))⟩)) ?_
          refine Seq.p rfl (Ev.strOf (l := fieldAt l p) sl.sl_uint8 it.uint8 st.string (hr := hsubF.r)) ?_
          refine Seq.p rfl Ev.move ?_
          refine Seq.p rfl Ev.move ?_
          refine Seq.p rfl Ev.eq ?_
          rw [show decide ((p : Int) = (f : Int)) = decide (p = f) by rw [decide_eq_decide]; omega]
          refine Seq.call rfl (fun w' hw => textTake (isBytes_take (isBytes_drop hB)) (by omega) hx hL (hw.part (Part.here (Part.here (Part.nil _))))) (F := [lineC b2 ⟨#[]⟩ (.slice none 0 0) 0 0, nilC]) (List.Perm.refl _) ?_
          have hxx := takeF_len (F := fieldAt l p) (first := decide (p = f)) (kind := kind) hx
          obtain ⟨e1, kind1, xs1, htk⟩ : ∃ a b c, takeF (fieldAt l p) (decide (p = f)) kind xs = (a, b, c) := ⟨_, _, _, rfl⟩
          rw [htk] at hxx ⊢
          rintro _ _ ⟨A1, c1, rfl, rfl⟩
          simp only [List.cons_append, List.nil_append] at hxx ⊢
          refine Seq.p rfl Ev.assign ?_
          refine Seq.nil ?_
          refine JC.rs ?_
          refine Seq.p rfl Ev.move ?_
          refine Seq.p rfl Ev.ne ?_
          refine Seq.nil ?_
          first | refine JC.c (ht := fun c79 => ?_) (hf := fun c79 => ?_) | refine JC.cb (ht := fun c79 => ?_) (hf := fun c79 => ?_)
          · -- then_t79
            refine JC.rs ?_
            refine Seq.p rfl Ev.move ?_
            refine Seq.p rfl (Ev.faB fd.text_line_2) ?_
            refine Seq.p rfl (Ev.ldB sc.int) ?_
            refine Seq.p rfl (Ev.buildN [_, _, _, _] pl.text_line z.text_line) ?_
            refine Seq.p rfl Ev.move ?_
            refine Seq.storeN [_, _, _, _] sz.text_line (k := ?_)
            refine Seq.p rfl Ev.assign ?_
            refine Seq.nil ?_
            refine JC.ret ?_
            -- return 3
            show retQ _ _ _ _ _ _ _ _
            refine retB2 ag.text_line (H' := [nilC]) (hp := (by repeat (first | exact Part.refl _ | exact Part.nil _ | apply Part.here | apply Part.skip))) (hpost := ?_)
            rw [hrd, ← hq, partsF_bad hp htk c79]
            exact ⟨none, 0, by unfold lineA partA; simp only; rw [if_neg c79]; rfl, rfl⟩
          · -- else_t79
            obtain rfl : e1 = 0 := Classical.not_not.1 c79
            rw [partsF_step hp htk] at hq
            refine JC.skip ?_
            refine JC.reg ?_
            refine Seq.p rfl Ev.move ?_
            refine Seq.p rfl (by first | exact Ev.inc | exact Ev.add) ?_
            refine Seq.p rfl Ev.assign ?_
            refine Seq.nil ?_
            exact ⟨p + firstF 1 (l.drop p) + 1, _, Part.refl _, ⟨kind1, A1, c1, xs1, Has.mk (by repeat (first | refine Off.upd ?_ rfl | exact Off.mix | refine Off.mix2 ?_ rfl | exact Off.refl)) (allLook_cons (by repeat (first | exact Look.here | apply Look.there (hne := rfl) | exact Look.const | apply Look.mix rfl | exact Look.arg0 | apply Look.args | exact Look.func)) allLook_nil), rfl, by omega, by omega, hxx, hq⟩, by omega⟩
        · -- else_t62
          rw [partsF_end (by omega)] at hq
          refine JC.exit ?_ -- 1
          refine JC.rs ?_
          refine Seq.p rfl (Ev.ldBA ag.text_line) ?_
          refine Seq.storeN [_, _, _, _] sz.text_line (k := ?_)
          refine Seq.p rfl Ev.assign ?_
          refine Seq.nil ?_
          refine JC.ret ?_
          -- return 4
          show retQ _ _ _ _ _ _ _ _
          refine retB2 ag.text_line (H' := [tagsC (.slice A xs.length c) xs]) (hp := (by repeat (first | exact Part.refl _ | exact Part.nil _ | apply Part.here | apply Part.skip))) (hpost := ?_)
          rw [hrd, ← hq]
          exact ⟨A, c, rfl, rfl⟩
set_option maxHeartbeats 1000000 in
set_option maxRecDepth 100000 in
theorem textDecode {w : World} {v : Value} {l : List Int} (hr : RSl byteEnc 1 w [] v l) (hB : isBytes l) (hl : l.length ≤ 281474976710656) (hL : Laid w) :
    Spec Go.Proofs.Tryz.prog 19 #[v] w [] (fun u H' => ∃ A c, u = .tuple #[.string (readF l).kind, .slice A (readF l).tags.length c, .int .i64 (readF l).place, .int .i64 (readF l).why] ∧ H' = [tagsC (.slice A (readF l).tags.length c) (readF l).tags]) := by
  refine Spec.enter (fn := Go.Proofs.Tryz.f19) (n := 24) [v] Go.Proofs.Tryz.func19 (by kernel_rfl) rfl Go.Proofs.Tryz.ntmps19 Go.Proofs.Tryz.results19 rfl (Own.nil _) ?_
  refine JC.re (fun w h => h.nilOwn 74 2) ?_
  refine JC.rs ?_
  refine Seq.p rfl Ev.assign ?_
  refine Seq.p rfl Ev.assign ?_
  refine Seq.p rfl Ev.assign ?_
  refine Seq.p rfl Ev.assign ?_
  refine Seq.nil ?_
  refine JC.rs ?_
  refine Seq.p rfl Ev.move ?_
  refine Seq.call rfl (fun w' hw => textRead (hr.up hw) hB hl (hL.upd hw)) (F := _) (by exact List.Perm.refl _) ?_
  rintro _ _ ⟨A1, c1, rfl, rfl⟩
  simp only [lineA]
  refine Seq.p rfl Ev.move ?_
  refine Seq.p rfl Ev.extract ?_
  refine Seq.p rfl Ev.extract ?_
  refine Seq.alloc (cs := [_, _, _, _]) (hz := z.text_line) (k := ?_); intro b6
  refine Seq.storeN [_, _, _, _] sz.text_line (k := ?_)
  refine Seq.p rfl Ev.assign ?_
  refine Seq.nil ?_
  refine JC.seq ?_
  refine JC.rs ?_
  refine Seq.p rfl Ev.move ?_
  refine Seq.p rfl Ev.ne ?_
  refine Seq.nil ?_
  first | refine JC.c (ht := fun c14 => ?_) (hf := fun c14 => ?_) | refine JC.cb (ht := fun c14 => ?_) (hf := fun c14 => ?_)
  · -- then_t14
    refine JC.qs mixed (by kernel_rfl) ?_
    refine Qui.p rfl (Ev.faB fd.text_line_3) ?_
    refine Qui.p rfl (Ev.ldB sc.int) ?_
    refine Qui.p rfl Ev.move ?_
    refine Qui.p rfl Ev.assign ?_
    refine Qui.p rfl Ev.assign ?_
    refine Qui.p rfl Ev.assign ?_
    refine Qui.p rfl Ev.assign ?_
    refine Qui.nil ?_
    refine JC.ret ?_
    -- return 0
    show retQ _ _ _ _ _ _ _ _
    refine retI (RVs.t (hs := (RVs.t (hs := (RVs.t (hs := (RVs.t (hs := RVs.nil)))))))) (H' := [nilC]) (by repeat (first | exact Part.refl _ | exact Part.nil _ | apply Part.here | apply Part.skip)) ?_
    have h1 := readF_bad_form c14
    rw [h1.1, h1.2]
    exact ⟨none, 0, by rw [if_neg c14]; rfl, rfl⟩
  · -- else_t14
    refine JC.skip ?_
    refine JC.qs mixed (by kernel_rfl) ?_
    refine Qui.p rfl (Ev.faB fd.text_line_0) ?_
    refine Qui.p rfl (Ev.ldB sc.string) ?_
    refine Qui.p rfl (Ev.faB fd.text_line_1) ?_
    refine Qui.p rfl (Ev.ldB sc.sl_api_Tag) ?_
    refine Qui.p rfl (Ev.faB fd.text_line_2) ?_
    refine Qui.p rfl (Ev.ldB sc.int) ?_
    refine Qui.p rfl Ev.assign ?_
    refine Qui.p rfl Ev.assign ?_
    refine Qui.p rfl Ev.assign ?_
    refine Qui.p rfl Ev.assign ?_
    refine Qui.nil ?_
    refine JC.ret ?_
    -- return 1
    show retQ _ _ _ _ _ _ _ _
    refine retI (RVs.t (hs := (RVs.t (hs := (RVs.t (hs := (RVs.t (hs := RVs.nil)))))))) (H' := [tagsC (.slice A1 (readF l).tags.length c1) (readF l).tags]) (by repeat (first | exact Part.refl _ | exact Part.nil _ | apply Part.here | apply Part.skip)) ?_
    have h1 := Classical.not_not.1 c14
    rw [readF_ok_place h1, h1]
    exact ⟨A1, c1, rfl, rfl⟩
end Go.Rx
/- What is lent to a call, whether it stayed, and what writes over it. -/
namespace Go.Rx
open Go Go.RowKit Go.Lib Go.Proofs.YthpejgmkiomfhaaGreatDoor
set_option linter.unusedVariables false
set_option linter.unusedSimpArgs false
abbrev bytesC (v : Value) (l : List Int) : Chunk := .own 5 1 v l.length (l.flatMap byteEnc)
theorem bytesC_append (v : Value) (l m : List Int) (j : Nat) (hj : m.length = j) : bytesC v (l ++ m) = .own 5 1 v (l.length + j) (l.flatMap byteEnc ++ m.flatMap byteEnc) := by
  subst hj
  unfold bytesC
  rw [List.length_append, List.flatMap_append]
def markN (i : Nat) : List Int := (List.range i).map fun j => ((171 + j : Nat) : Int)
theorem markN_len (i : Nat) : (markN i).length = i := by simp [markN]
theorem markN_succ (i : Nat) : markN (i + 1) = markN i ++ [((171 + i : Nat) : Int)] := by simp [markN, List.range_succ]
theorem markN_get {i j : Nat} (h : j < i) : (markN i)[j]! = ((171 + j : Nat) : Int) := by
  rw [getElem!_pos _ j (by rw [markN_len]; exact h)]
  simp [markN]
end Go.Rx
/- The law bourselaw03.TextDecodes gives true. -/
namespace Go.Rx
open Go Go.RowKit Go.Lib Go.Proofs.YthpejgmkiomfhaaGreatDoor
set_option linter.unusedVariables false
set_option linter.unusedSimpArgs false
theorem partsF_tags {l : List Int} {f to : Nat} {kind' : ByteArray} {ys : List Tg} {N : Nat} (hN : l.length ≤ N) : ∀ {p : Nat} {kind : ByteArray} {xs : List Tg}, (∀ t ∈ xs, t.value.size ≤ N) → xs.length ≤ 64 → partsF l f to p kind xs = .ok kind' ys → (∀ t ∈ ys, t.value.size ≤ N) ∧ ys.length ≤ 64 := by
  intro p kind xs hx h64 h
  generalize hd : to - p = d
  induction d using Nat.strongRecOn generalizing p kind xs with
  | _ d ih =>
    rw [partsF] at h
    split at h
    · split at h
      · cases h
      · refine ih (to - (p + firstF 1 (l.drop p) + 1)) (by omega) ?_ (takeF_len h64) h rfl
        have hFl := fieldAt_len (l := l) (p := p)
        have hle := firstF_le 1 (l.drop p)
        rw [List.length_drop] at hle
        have hv : (fieldV (fieldAt l p)).size ≤ N := by
          unfold fieldV
          rw [strOf_size, List.length_drop]
          omega
        unfold takeF
        split
        · exact hx
        · split
          · split <;> exact hx
          · split
            · exact hx
            · split
              · exact hx
              · intro t ht
                rcases List.mem_append.1 ht with ht | ht
                · exact hx t ht
                · rw [List.mem_singleton.1 ht]
                  exact hv
    · cases h
      exact ⟨hx, h64⟩
theorem readF_tags {l : List Int} {N : Nat} (hN : l.length ≤ N) : (∀ t ∈ (readF l).tags, t.value.size ≤ N) ∧ (readF l).tags.length ≤ 64 := by
  rcases readF_cases l with ⟨a, c, h, _⟩ | ⟨f, k, _, h⟩
  · rw [h]; exact ⟨fun t ht => (by cases ht), (Nat.zero_le _)⟩
  · rw [h]
    cases hp : partsF l f (f + k) f ⟨#[]⟩ [] with
    | bad p e => exact ⟨fun t ht => (by cases ht), (Nat.zero_le _)⟩
    | ok kind xs => exact partsF_tags hN (fun t ht => (by cases ht)) (by decide) hp
theorem lentSub {w : World} {C : List Chunk} {v : Value} {l : List Int} (h : RSl byteEnc 1 w C v (l ++ markN 32)) : RSl byteEnc 1 w C (subSl v 0 l.length 1) l := by
  have h2 := h.sub (lo := 0) (hi := l.length) (Nat.zero_le _) (by rw [List.length_append]; omega)
  rwa [List.drop_zero, Nat.sub_zero, List.take_left] at h2
theorem dec7 : decDigits 7 = [55] := by rw [decDigits_one (by decide)]; rfl
/-- What was lent, all of it: what a call handed on may be cut to its beginning. -/
theorem lentCut {w0 w : World} {Cs H : List Chunk} {i : Nat} {A : Option Addr} {c : Nat} {l : List Int} (h : Upd w0 w Cs H) (hH : At H i (bytesC (.slice A (l.length + 32) c) (l ++ markN 32))) :
    Upd w0 w Cs (H.set i (bytesC (subSl (.slice A (l.length + 32) c) 0 l.length 1) l)) := by
  have h2 := Upd.reslice (enc := byteEnc) (lo := 0) (hi := l.length) h hH (fun _ => rfl) (Nat.zero_le _) (by rw [List.length_append]; omega)
  rwa [List.drop_zero, Nat.sub_zero, List.take_left] at h2
end Go.Rx
/- What Encode makes, as a plain function; Decode of it, and it of what was decoded. -/
namespace Go.Rx
open Go Go.RowKit Go.Lib Go.Proofs.YthpejgmkiomfhaaGreatDoor
set_option linter.unusedVariables false
set_option linter.unusedSimpArgs false
/-- A number's digits. -/
def decL (n : Nat) : List Int := (decDigits n).map fun c => (c.toNat : Int)
/-- A field without its end. -/
def fldL (n : Nat) (v : ByteArray) : List Int := decL n ++ 61 :: bytesOf v
def fieldL (n : Nat) (v : ByteArray) : List Int := fldL n v ++ [1]
def bodyL (kind : ByteArray) (xs : List Tg) : List Int := fieldL 35 kind ++ xs.flatMap fun t => fieldL t.tag.toNat t.value
/-- Why a list of fields can't be; 0: it can. -/
def encE : List Tg → List Tg → Int
  | _, [] => 0
  | seen, t :: r => if refusedF seen t ≠ 0 then refusedF seen t else encE (seen ++ [t]) r
def frontL (kind : ByteArray) (xs : List Tg) : List Int := beginL ++ decL (bodyL kind xs).length ++ [1] ++ bodyL kind xs
def lineL (kind : ByteArray) (xs : List Tg) : List Int := frontL kind xs ++ lastL (frontL kind xs)
def encF (kind : ByteArray) (xs : List Tg) : Int × List Int :=
  if kindB kind = false then (3, [])
  else if 64 < xs.length then (2, [])
  else if encE [] xs ≠ 0 then (encE [] xs, [])
  else if 2048 < (lineL kind xs).length then (2, [])
  else (0, lineL kind xs)
theorem decL_digit (n : Nat) : ∀ c ∈ decL n, 48 ≤ c ∧ c ≤ 57 := by
  intro c hc
  obtain ⟨x, hx, rfl⟩ := List.mem_map.1 hc
  have := dec_digits n x hx
  omega
theorem decL_len (n : Nat) : (decL n).length = nDigits n := by
  unfold decL
  rw [List.length_map]
  exact decDigits_length n
theorem decL_pos (n : Nat) : 0 < (decL n).length := by
  rw [decL_len]
  exact nDigits_pos n
theorem decL_bytes (n : Nat) : isBytes (decL n) := fun c hc => by
  have := decL_digit n c hc
  omega
theorem strOf_dec (n : Nat) : strOf (decL n) = decS n := by
  apply ba_ext
  rw [strOf_toList, decS_list]
  unfold decL
  rw [List.map_map]
  conv => rhs; rw [← List.map_id (decDigits n)]
  apply List.map_congr_left
  intro c hc
  simp
theorem decL_of {F : List Int} {n : Nat} (hB : isBytes F) (h : natF (strOf F) = some n) : F = decL n := by
  rw [natF_eq] at h
  have h1 := (numOf_some h).1
  rw [← strOf_dec] at h1
  exact (strOf_inj hB (decL_bytes n)).1 h1
theorem natF_dec {n : Nat} (h : n ≤ 18446744073709551615) : natF (strOf (decL n)) = some n := by
  rw [strOf_dec, natF_eq]
  exact numOf_dec h
theorem decL_four {n : Nat} (h : n < 10000) : (decL n).length ≤ 4 := by
  have e : ∀ k : Nat, k < 10 → (decDigits k).length = 1 := fun k hk => by rw [decDigits_one hk]; rfl
  have s : ∀ k : Nat, ¬ k < 10 → (decDigits k).length = (decDigits (k / 10)).length + 1 := fun k hk => by
    rw [decDigits, dif_neg hk, List.length_append]
    rfl
  have key : ∀ m k : Nat, k < 10 ^ (m + 1) → (decDigits k).length ≤ m + 1 := by
    intro m
    induction m with
    | zero => intro k hk; rw [e k (by simpa using hk)]; exact Nat.le_refl _
    | succ m ih =>
      intro k hk
      by_cases h1 : k < 10
      · rw [e k h1]; omega
      · rw [s k h1]
        have := ih (k / 10) (by rw [Nat.pow_succ] at hk; omega)
        omega
  unfold decL
  rw [List.length_map]
  exact key 3 n (by simpa using h)
theorem decL_big {n : Nat} (h : 10000 ≤ n) : 5 ≤ (decL n).length := by
  rcases Nat.lt_or_ge 4 (decL n).length with h1 | h1
  · exact h1
  · exfalso
    have e1 : natF (strOf (decL n)) = some n ∨ 18446744073709551615 < n := by
      rcases Nat.lt_or_ge 18446744073709551615 n with h2 | h2
      · exact .inr h2
      · exact .inl (natF_dec h2)
    rcases e1 with h2 | h2
    · have h3 := natF_lt h2
      rw [strOf_size] at h3
      have h4 : (10 : Nat) ^ (decL n).length ≤ 10 ^ 4 := Nat.pow_le_pow_right (by decide) h1
      omega
    · have s : ∀ k : Nat, ¬ k < 10 → (decDigits k).length = (decDigits (k / 10)).length + 1 := fun k hk => by
        rw [decDigits, dif_neg hk, List.length_append]
        rfl
      have e2 : (decL n).length = (decDigits n).length := by unfold decL; rw [List.length_map]
      have h5 := s n (by omega)
      have h6 := s (n / 10) (by omega)
      have h7 := s (n / 10 / 10) (by omega)
      have h8 := s (n / 10 / 10 / 10) (by omega)
      have h9 := s (n / 10 / 10 / 10 / 10) (by omega)
      omega
theorem firstF_app {c : Int} {a b : List Int} (h : ∀ x ∈ a, x ≠ c) : firstF c (a ++ c :: b) = a.length := by
  induction a with
  | nil => exact if_pos rfl
  | cons x r ih =>
    have e : firstF c (x :: r ++ c :: b) = firstF c (r ++ c :: b) + 1 := if_neg (h x (List.mem_cons_self ..))
    rw [e, ih (fun y hy => h y (List.mem_cons_of_mem _ hy))]
    rfl
theorem fld_len (n : Nat) (v : ByteArray) : (fldL n v).length = (decL n).length + 1 + v.size := by
  unfold fldL
  rw [List.length_append, List.length_cons, bytesOf_length]
  omega
theorem field_len (n : Nat) (v : ByteArray) : (fieldL n v).length = (decL n).length + 2 + v.size := by
  unfold fieldL
  rw [List.length_append, fld_len]
  simp
  omega
theorem fld_first (n : Nat) (v : ByteArray) : firstF 61 (fldL n v) = (decL n).length := firstF_app fun x hx => by
  have := decL_digit n x hx
  omega
theorem fld_value (n : Nat) (v : ByteArray) : fieldV (fldL n v) = v := by
  unfold fieldV
  rw [fld_first]
  unfold fldL
  rw [← List.drop_drop, List.drop_left]
  exact strOf_bytes v
theorem fld_num {n : Nat} (v : ByteArray) (h : n < 10000) : fieldN (fldL n v) = some n := by
  unfold fieldN
  rw [fld_first, if_pos ⟨by rw [fld_len]; omega, decL_four h⟩]
  unfold fldL
  rw [List.take_left]
  exact natF_dec (by omega)
theorem value_no1 {v : ByteArray} (h : valueB v = true) : ∀ x ∈ bytesOf v, x ≠ 1 := by
  intro x hx
  unfold valueB at h
  rw [Bool.and_eq_true] at h
  have := List.all_eq_true.1 h.2 x hx
  unfold printB at this
  simp only [Bool.and_eq_true, decide_eq_true_eq] at this
  omega
theorem kind_no1 {v : ByteArray} (h : kindB v = true) : ∀ x ∈ bytesOf v, x ≠ 1 := by
  intro x hx
  unfold kindB at h
  rw [Bool.and_eq_true] at h
  have := List.all_eq_true.1 h.2 x hx
  unfold alnum at this
  simp only [Bool.and_eq_true, Bool.or_eq_true, decide_eq_true_eq] at this
  omega
theorem fld_no1 {n : Nat} {v : ByteArray} (h : ∀ x ∈ bytesOf v, x ≠ 1) : ∀ x ∈ fldL n v, x ≠ 1 := by
  intro x hx
  unfold fldL at hx
  rcases List.mem_append.1 hx with hx | hx
  · have := decL_digit n x hx; omega
  · rcases List.mem_cons.1 hx with rfl | hx
    · decide
    · exact h x hx
theorem field_at {l rest : List Int} {p n : Nat} {v : ByteArray} (hd : l.drop p = fieldL n v ++ rest) (h : ∀ x ∈ bytesOf v, x ≠ 1) : firstF 1 (l.drop p) = (fldL n v).length ∧ fieldAt l p = fldL n v := by
  have h1 : firstF 1 (l.drop p) = (fldL n v).length := by
    rw [hd]
    unfold fieldL
    rw [List.append_assoc]
    exact firstF_app (fld_no1 h)
  refine ⟨h1, ?_⟩
  unfold fieldAt
  rw [h1, hd]
  unfold fieldL
  rw [List.append_assoc, List.take_left]
theorem refused_ok {xs : List Tg} {t : Tg} (h : refusedF xs t = 0) : tagB t.tag = true ∧ thereB xs t.tag = false ∧ valueB t.value = true := by
  unfold refusedF at h
  split at h
  · cases h
  · rename_i h1
    split at h
    · cases h
    · rename_i h2
      simp only [Bool.or_eq_true, Bool.not_eq_true', not_or] at h1 h2
      exact ⟨by simpa using h1.1, by simpa using h1.2, by simpa using h2⟩
theorem tag_range {n : Int} (h : tagB n = true) : ((n.toNat : Nat) : Int) = n ∧ n.toNat < 10000 ∧ 1 ≤ n.toNat := by
  unfold tagB at h
  simp only [Bool.and_eq_true, decide_eq_true_eq] at h
  omega
/-- What is encoded is read field by field. -/
theorem parts_enc {l : List Int} {f : Nat} {kind : ByteArray} : ∀ (ys seen : List Tg) (p : Nat) (tail : List Int), l.drop p = (ys.flatMap fun t => fieldL t.tag.toNat t.value) ++ tail → f < p → encE seen ys = 0 → (seen ++ ys).length ≤ 64 →
    partsF l f (p + (ys.flatMap fun t => fieldL t.tag.toNat t.value).length) p kind seen = .ok kind (seen ++ ys)
  | [], seen, p, tail, hd, hf, he, hl => by
    rw [partsF_end (by simp)]
    rw [List.append_nil]
  | t :: r, seen, p, tail, hd, hf, he, hl => by
    have hr : refusedF seen t = 0 := by
      unfold encE at he
      by_cases h : refusedF seen t ≠ 0
      · rw [if_pos h] at he; exact absurd he h
      · exact Classical.not_not.1 h
    have he2 : encE (seen ++ [t]) r = 0 := by
      unfold encE at he
      rwa [if_neg (fun h => h hr)] at he
    obtain ⟨h1, h2, h3⟩ := refused_ok hr
    obtain ⟨g1, g2, g3⟩ := tag_range h1
    rw [List.flatMap_cons, List.append_assoc] at hd
    obtain ⟨a1, a2⟩ := field_at hd (value_no1 h3)
    have hlen := field_len t.tag.toNat t.value
    have hfl := fld_len t.tag.toNat t.value
    have htk : takeF (fieldAt l p) (decide (p = f)) kind seen = (0, kind, seen ++ [t]) := by
      rw [decide_eq_false (by omega), a2, takeF_next (fld_num _ g2), fld_value, g1]
      rw [if_neg (by simp at hl; omega), if_neg (fun h => h hr)]
    have hto : p + ((t :: r).flatMap fun t => fieldL t.tag.toNat t.value).length = p + (fldL t.tag.toNat t.value).length + 1 + (r.flatMap fun t => fieldL t.tag.toNat t.value).length := by
      rw [List.flatMap_cons, List.length_append]
      omega
    have hlt : p < p + (fldL t.tag.toNat t.value).length + 1 + (r.flatMap fun t => fieldL t.tag.toNat t.value).length := by omega
    rw [hto, partsF_step hlt htk, a1]
    have ih := parts_enc (l := l) (f := f) (kind := kind) r (seen ++ [t]) (p + (fldL t.tag.toNat t.value).length + 1) tail (by
      have e : p + (fldL t.tag.toNat t.value).length + 1 = p + (fieldL t.tag.toNat t.value).length := by omega
      rw [e, ← List.drop_drop, hd, List.drop_left]) (by omega) he2 (by simpa using hl)
    rw [List.append_assoc] at ih
    exact ih
theorem preF_full {l : List Int} : ∀ (k i : Nat), (∀ j, i ≤ j → j < i + k → j < l.length ∧ l[j]! = beginL[j]!) → preF l k i = i + k
  | 0, i, h => rfl
  | k + 1, i, h => by
    unfold preF
    rw [if_pos (h i (Nat.le_refl _) (by omega)), preF_full k (i + 1) (fun j h1 h2 => h j (by omega) (by omega))]
    omega
theorem preF_inv {l : List Int} : ∀ (k i : Nat), preF l k i = i + k → ∀ j, i ≤ j → j < i + k → j < l.length ∧ l[j]! = beginL[j]!
  | 0, i, h, j, h1, h2 => by omega
  | k + 1, i, h, j, h1, h2 => by
    unfold preF at h
    by_cases hc : i < l.length ∧ l[i]! = beginL[i]!
    · rw [if_pos hc] at h
      by_cases hj : j = i
      · rw [hj]; exact hc
      · exact preF_inv k (i + 1) (by omega) j (by omega) (by omega)
    · rw [if_neg hc] at h
      omega
theorem dgF_at {l : List Int} {d : Nat} : ∀ (k n : Nat), n ≤ d → d ≤ n + k → (∀ j, n ≤ j → j < d → 10 + j < l.length ∧ digit l[10 + j]! = true) → (d < n + k → ¬ (10 + d < l.length ∧ digit l[10 + d]! = true)) → dgF l k n = d
  | 0, n, h1, h2, h3, h4 => by
    show n = d
    omega
  | k + 1, n, h1, h2, h3, h4 => by
    unfold dgF
    by_cases hd : n = d
    · subst hd
      rw [if_neg (h4 (by omega))]
    · rw [if_pos (h3 n (Nat.le_refl _) (by omega))]
      exact dgF_at k (n + 1) (by omega) (by omega) (fun j a b => h3 j (by omega) b) (fun a => h4 (by omega))
theorem get_app_left {a b : List Int} {i : Nat} (h : i < a.length) : (a ++ b)[i]! = a[i]! := by
  rw [getElem!_pos (a ++ b) i (by rw [List.length_append]; omega), getElem!_pos a i h, List.getElem_append_left h]
theorem get_app_right {a b : List Int} {i : Nat} (h : i < b.length) : (a ++ b)[a.length + i]! = b[i]! := by
  rw [getElem!_pos (a ++ b) (a.length + i) (by rw [List.length_append]; omega), getElem!_pos b i h, List.getElem_append_right (by omega)]
  congr 1
  omega
theorem head_enc {m : Nat} {rest : List Int} (h : m < 10000) : headF (beginL ++ decL m ++ [1] ++ rest) = .ok (11 + (decL m).length) m := by
  have hd4 := decL_four h
  have hdp := decL_pos m
  generalize hl : beginL ++ decL m ++ [1] ++ rest = l
  have e1 : l = beginL ++ (decL m ++ ([1] ++ rest)) := by rw [← hl]; simp
  have hll : l.length = 10 + (decL m).length + 1 + rest.length := by
    rw [← hl]
    simp [beginL]
    omega
  have hb : ∀ j, j < 10 → l[j]! = beginL[j]! := fun j hj => by rw [e1]; exact get_app_left (by simpa [beginL] using hj)
  have hg : ∀ j, j < (decL m).length → l[10 + j]! = (decL m)[j]! := fun j hj => by
    have h1 := get_app_right (a := beginL) (b := decL m ++ ([1] ++ rest)) (i := j) (by rw [List.length_append]; omega)
    rw [e1]
    rw [get_app_left hj] at h1
    exact h1
  have h1 : l[10 + (decL m).length]! = 1 := by
    have h1 := get_app_right (a := beginL) (b := decL m ++ ([1] ++ rest)) (i := (decL m).length) (by simp)
    have h2 := get_app_right (a := decL m) (b := [1] ++ rest) (i := 0) (by simp)
    rw [e1]
    rw [Nat.add_zero] at h2
    rw [h2] at h1
    exact h1
  have hp : preF l 10 0 = 10 := preF_full 10 0 fun j _ hj => ⟨by omega, hb j (by omega)⟩
  have hdg : dgF l 5 0 = (decL m).length := by
    refine dgF_at 5 0 (by omega) (by omega) (fun j _ hj => ⟨by omega, ?_⟩) (fun _ => ?_)
    · rw [hg j hj, getElem!_pos _ j hj]
      have := decL_digit m _ (List.getElem_mem hj)
      unfold digit
      simp only [Bool.and_eq_true, decide_eq_true_eq]
      omega
    · rintro ⟨_, h2⟩
      rw [h1] at h2
      cases h2
  have hdr : (l.drop 10).take (decL m).length = decL m := by
    rw [e1]
    have : (beginL ++ (decL m ++ ([1] ++ rest))).drop 10 = decL m ++ ([1] ++ rest) := rfl
    rw [this, List.take_left]
  unfold headF
  rw [hp, if_neg (by omega), hdg, if_neg (by omega), hdr, natF_dec (by omega)]
  simp only
  rw [if_neg]
  rintro (h2 | h2)
  · omega
  · exact h2 h1
end Go.Rx
/- Decode of what was encoded, and Encode of what was decoded: the plain laws. -/
namespace Go.Rx
open Go Go.RowKit Go.Lib Go.Proofs.YthpejgmkiomfhaaGreatDoor
set_option linter.unusedVariables false
set_option linter.unusedSimpArgs false
theorem encF_ok {kind : ByteArray} {xs : List Tg} {l : List Int} (h : encF kind xs = (0, l)) : kindB kind = true ∧ xs.length ≤ 64 ∧ encE [] xs = 0 ∧ (lineL kind xs).length ≤ 2048 ∧ l = lineL kind xs := by
  unfold encF at h
  split at h
  · cases h
  · rename_i h1
    split at h
    · cases h
    · rename_i h2
      split at h
      · rename_i h3
        exact absurd (Prod.mk.inj h).1 h3
      · rename_i h3
        split at h
        · cases h
        · rename_i h4
          exact ⟨by simpa using h1, by omega, Classical.not_not.1 h3, by omega, (Prod.mk.inj h).2.symm⟩
theorem flat_last : ∀ (xs : List Tg) (pre : List Int), ∃ x, (pre ++ [1]) ++ (xs.flatMap fun t => fieldL t.tag.toNat t.value) = x ++ [1]
  | [], pre => ⟨pre, by simp⟩
  | t :: r, pre => by
    obtain ⟨x, hx⟩ := flat_last r ((pre ++ [1]) ++ fldL t.tag.toNat t.value)
    refine ⟨x, ?_⟩
    rw [← hx]
    simp [fieldL, List.flatMap_cons]
theorem body_last (kind : ByteArray) (xs : List Tg) : ∃ x, bodyL kind xs = x ++ [1] := flat_last xs (fldL 35 kind)
theorem last_seven (l : List Int) : (lastL l).length = 7 := rfl
theorem trail_ok (l : List Int) : trailB (lastL l) = true := by
  have hs := sumB_range l
  show trailB [49, 48, 61, 48 + sumB l / 100, 48 + sumB l / 10 % 10, 48 + sumB l % 10, 1] = true
  rw [trailB_seven]
  unfold digit
  simp only [Bool.and_eq_true, decide_eq_true_eq]
  refine ⟨⟨⟨?_, ?_, ?_⟩, ?_⟩, ?_⟩
  all_goals first | omega | simp
theorem front_len (kind : ByteArray) (xs : List Tg) : (frontL kind xs).length = 11 + (decL (bodyL kind xs).length).length + (bodyL kind xs).length := by
  unfold frontL
  simp [beginL]
  omega
theorem line_len (kind : ByteArray) (xs : List Tg) : (lineL kind xs).length = 11 + (decL (bodyL kind xs).length).length + (bodyL kind xs).length + 7 := by
  unfold lineL
  rw [List.length_append, last_seven, front_len]
/-- What was encoded is decoded, whatever stands behind it. -/
theorem read_enc {kind : ByteArray} {xs : List Tg} {l : List Int} (h : encF kind xs = (0, l)) (behind : List Int) : readF (l ++ behind) = ⟨kind, xs, (l.length : Int), 0, l.length⟩ := by
  obtain ⟨hk, hx, he, hlen, rfl⟩ := encF_ok h
  have hll := line_len kind xs
  have hfl := front_len kind xs
  obtain ⟨y, hy⟩ := body_last kind xs
  have hm : (bodyL kind xs).length = y.length + 1 := by rw [hy]; simp
  have hbody : bodyL kind xs = fieldL 35 kind ++ xs.flatMap fun t => fieldL t.tag.toNat t.value := rfl
  have hblen : (bodyL kind xs).length = (fieldL 35 kind).length + (xs.flatMap fun t => fieldL t.tag.toNat t.value).length := by rw [hbody, List.length_append]
  generalize hd : (decL (bodyL kind xs).length).length = d at hll hfl
  generalize hfr : frontL kind xs = front at hfl
  have hL : lineL kind xs ++ behind = beginL ++ decL (bodyL kind xs).length ++ [1] ++ (bodyL kind xs ++ (lastL front ++ behind)) := by
    have hfe : front = beginL ++ decL (bodyL kind xs).length ++ [1] ++ bodyL kind xs := hfr.symm
    unfold lineL
    rw [hfr, hfe]
    simp only [List.append_assoc]
  have hhead := head_enc (m := (bodyL kind xs).length) (rest := bodyL kind xs ++ (lastL front ++ behind)) (by omega)
  rw [← hL, hd] at hhead
  have hL2 : lineL kind xs ++ behind = front ++ (lastL front ++ behind) := by
    unfold lineL
    rw [hfr]
    simp
  have hL3 : lineL kind xs ++ behind = (beginL ++ decL (bodyL kind xs).length ++ [1]) ++ (fieldL 35 kind ++ ((xs.flatMap fun t => fieldL t.tag.toNat t.value) ++ (lastL front ++ behind))) := by
    rw [hL, hbody]
    simp
  have hll2 : (lineL kind xs ++ behind).length = (lineL kind xs).length + behind.length := List.length_append
  generalize hLg : lineL kind xs ++ behind = L at hhead hL hL2 hL3 hll2
  generalize hmg : (bodyL kind xs).length = m at *
  have hfm : 11 + d + m = front.length := by omega
  have htake : L.take (11 + d + m) = front := by rw [hfm, hL2, List.take_left]
  have hdrop : (L.drop (11 + d + m)).take 7 = lastL front := by rw [hfm, hL2, List.drop_left, ← last_seven front, List.take_left]
  have h1 : L[11 + d + m - 1]! = 1 := by
    have e : front = (beginL ++ decL m ++ [1] ++ y) ++ [1] := by
      rw [← hfr]
      unfold frontL
      rw [hmg, hy]
      simp
    have h2 := get_app_right (a := beginL ++ decL m ++ [1] ++ y) (b := [1] ++ (lastL front ++ behind)) (i := 0) (by simp)
    have e2 : L = (beginL ++ decL m ++ [1] ++ y) ++ ([1] ++ (lastL front ++ behind)) := by
      rw [hL2, e]
      simp only [List.append_assoc]
    rw [← e2, Nat.add_zero] at h2
    have e3 : (beginL ++ decL m ++ [1] ++ y).length = 11 + d + m - 1 := by
      simp [beginL]
      omega
    rw [e3] at h2
    exact h2
  have hf35 := field_len 35 kind
  have hfld := fld_len 35 kind
  have hdf : L.drop (11 + d) = fieldL 35 kind ++ ((xs.flatMap fun t => fieldL t.tag.toNat t.value) ++ (lastL front ++ behind)) := by
    have e : (beginL ++ decL m ++ [1]).length = 11 + d := by
      simp [beginL]
      omega
    rw [hL3, ← e, List.drop_left]
  obtain ⟨a1, a2⟩ := field_at hdf (kind_no1 hk)
  have htk : takeF (fieldAt L (11 + d)) (decide (11 + d = 11 + d)) ⟨#[]⟩ [] = (0, kind, []) := by
    rw [decide_eq_true rfl, a2, takeF_first (fld_num kind (by decide)), fld_value, if_neg]
    rintro (h | h)
    · exact h rfl
    · rw [hk] at h; cases h
  have hparts : partsF L (11 + d) (11 + d + m) (11 + d) ⟨#[]⟩ [] = .ok kind xs := by
    rw [partsF_step (by omega) htk, a1]
    have h3 := parts_enc (l := L) (f := 11 + d) (kind := kind) xs [] (11 + d + (fldL 35 kind).length + 1) (lastL front ++ behind) (by
      rw [show 11 + d + (fldL 35 kind).length + 1 = 11 + d + (fieldL 35 kind).length by omega, ← List.drop_drop, hdf, List.drop_left]) (by omega) he (by simpa using hx)
    rw [List.nil_append] at h3
    rw [show 11 + d + m = 11 + d + (fldL 35 kind).length + 1 + (xs.flatMap fun t => fieldL t.tag.toNat t.value).length by omega]
    exact h3
  have hcc : ¬ (trailB ((L.drop (11 + d + m)).take 7) = false ∨ m = 0 ∨ L[11 + d + m - 1]! ≠ 1) := by
    rw [hdrop, trail_ok]
    rintro (h | h | h)
    · cases h
    · omega
    · exact h h1
  rw [readF_parts hhead (by omega) (by omega) hcc (by rw [hdrop, htake]; exact fun h => h rfl), hparts]
  unfold partA
  rw [hll]
theorem fieldN_inv {F : List Int} {n : Nat} (hB : isBytes F) (h : fieldN F = some n) : F = fldL n (fieldV F) ∧ n < 10000 := by
  unfold fieldN at h
  split at h
  · rename_i hc
    have h1 := decL_of (isBytes_take hB) h
    have h2 := firstF_get hc.1
    refine ⟨?_, ?_⟩
    · unfold fldL fieldV
      rw [bytesOf_str (isBytes_drop hB), ← h1]
      conv => lhs; rw [← List.take_append_drop (firstF 61 F) F]
      congr 1
      rw [List.drop_eq_getElem_cons hc.1]
      congr 1
      rw [getElem!_pos F _ hc.1] at h2
      exact h2
    · have h3 := natF_lt h
      rw [strOf_size] at h3
      have h4 : (F.take (firstF 61 F)).length ≤ 4 := by rw [List.length_take]; omega
      exact Nat.lt_of_lt_of_le h3 (Nat.pow_le_pow_right (by decide) h4)
  · cases h
theorem split_field {l : List Int} {p r : Nat} (h : p + firstF 1 (l.drop p) < l.length) : (l.drop p).take (firstF 1 (l.drop p) + 1 + r) = fieldAt l p ++ [1] ++ (l.drop (p + firstF 1 (l.drop p) + 1)).take r := by
  have hlt : firstF 1 (l.drop p) < (l.drop p).length := by rw [List.length_drop]; omega
  have h2 := firstF_get hlt
  rw [List.take_add, List.take_add]
  unfold fieldAt
  congr 1
  · congr 1
    rw [List.drop_eq_getElem_cons hlt]
    rw [getElem!_pos (l.drop p) (firstF 1 (l.drop p)) hlt] at h2
    rw [h2]
    rfl
  · rw [List.drop_drop]
    congr 2
theorem parts_inv {l : List Int} {f to : Nat} {kind' : ByteArray} {ys : List Tg} (hB : isBytes l) (ht : to ≤ l.length) (h1 : l[to - 1]! = 1) : ∀ {p : Nat} {kind : ByteArray} {xs : List Tg}, f < p → p ≤ to → xs.length ≤ 64 → partsF l f to p kind xs = .ok kind' ys →
    kind' = kind ∧ ∃ zs, ys = xs ++ zs ∧ (l.drop p).take (to - p) = (zs.flatMap fun t => fieldL t.tag.toNat t.value) ∧ encE xs zs = 0 ∧ ys.length ≤ 64 := by
  intro p kind xs hf hp hx h
  generalize hd : to - p = d
  induction d using Nat.strongRecOn generalizing p kind xs with
  | _ d ih =>
    by_cases hlt : p < to
    · have hin := first_in hlt ht h1
      rcases htk : takeF (fieldAt l p) (decide (p = f)) kind xs with ⟨e, k1, xs1⟩
      by_cases he : e = 0
      · subst he
        rw [partsF_step hlt htk] at h
        rw [decide_eq_false (by omega)] at htk
        cases hN : fieldN (fieldAt l p) with
        | none => rw [takeF_none hN] at htk; cases htk
        | some n =>
          rw [takeF_next hN] at htk
          by_cases h64 : xs.length = 64
          · rw [if_pos h64] at htk; cases htk
          · rw [if_neg h64] at htk
            by_cases hr : refusedF xs ⟨n, fieldV (fieldAt l p)⟩ ≠ 0
            · rw [if_pos hr] at htk
              exact absurd (Prod.mk.inj htk).1 hr
            · rw [if_neg hr] at htk
              cases htk
              obtain ⟨g1, zs, g2, g3, g4, g5⟩ := ih (to - (p + firstF 1 (l.drop p) + 1)) (by omega) (by omega) (by omega) (by simp; omega) h rfl
              refine ⟨g1, ⟨n, fieldV (fieldAt l p)⟩ :: zs, by rw [g2]; simp, ?_, ?_, g5⟩
              · rw [show d = firstF 1 (l.drop p) + 1 + (to - (p + firstF 1 (l.drop p) + 1)) by omega, split_field (by omega), g3, List.flatMap_cons]
                congr 1
                unfold fieldL
                show _ = fldL ((n : Int).toNat) (fieldV (fieldAt l p)) ++ [1]
                rw [Int.toNat_natCast]
                congr 1
                exact (fieldN_inv (isBytes_take (isBytes_drop hB)) hN).1
              · unfold encE
                rw [if_neg hr]
                exact g4
      · rw [partsF_bad hlt htk he] at h
        cases h
    · rw [partsF_end hlt] at h
      cases h
      refine ⟨rfl, [], by simp, ?_, rfl, hx⟩
      rw [show d = 0 by omega]
      rfl
theorem head_inv {l : List Int} {f k : Nat} (hB : isBytes l) (h : headF l = .ok f k) : l.take f = beginL ++ decL k ++ [1] ∧ f = 11 + (decL k).length ∧ f ≤ l.length := by
  have hpl := preF_le l 10 0
  have hgl := dgF_le l 5 0
  unfold headF at h
  split at h
  · split at h <;> cases h
  · rename_i h1
    have hp : preF l 10 0 = 10 := by omega
    have hinv := preF_inv 10 0 (by rw [hp])
    split at h
    · cases h
    · rename_i h2
      split at h
      · rename_i q hq
        split at h
        · cases h
        · rename_i h3
          cases h
          have h4 : l[10 + dgF l 5 0]! = 1 := Classical.not_not.1 fun h => h3 (.inr h)
          have h10 : 10 ≤ l.length := by have := (hinv 9 (by omega) (by omega)).1; omega
          have hdl := dgF_len l 5 0 (by omega)
          have hlt : 10 + dgF l 5 0 < l.length := by omega
          have hdec := decL_of (isBytes_take (isBytes_drop hB)) hq
          have hlen : (decL k).length = dgF l 5 0 := by rw [← hdec, List.length_take, List.length_drop]; omega
          refine ⟨?_, by omega, by omega⟩
          have e10 : l.take 10 = beginL := by
            apply List.ext_getElem
            · rw [List.length_take]
              show min 10 l.length = 10
              omega
            · intro i ha hb
              obtain ⟨h5, h6⟩ := hinv i (by omega) (by rw [List.length_take] at ha; omega)
              rw [getElem!_pos l i h5, getElem!_pos beginL i hb] at h6
              rw [List.getElem_take]
              exact h6
          rw [getElem!_pos l _ hlt] at h4
          rw [show 11 + dgF l 5 0 = 10 + dgF l 5 0 + 1 by omega, List.take_succ_eq_append_getElem hlt, List.take_add, e10, hdec, h4]
      · cases h
theorem readF_ok_parts {l : List Int} (h : (readF l).why = 0) : ∃ f k kind xs, headF l = .ok f k ∧ ¬ 2048 < f + k + 7 ∧ ¬ l.length < f + k + 7 ∧ ¬ (trailB ((l.drop (f + k)).take 7) = false ∨ k = 0 ∨ l[f + k - 1]! ≠ 1) ∧ (l.drop (f + k)).take 7 = lastL (l.take (f + k)) ∧
    partsF l f (f + k) f ⟨#[]⟩ [] = .ok kind xs ∧ readF l = ⟨kind, xs, ((f + k + 7 : Nat) : Int), 0, f + k + 7⟩ := by
  cases hh : headF l with
  | bad a c => rw [readF_bad hh] at h; exact absurd h (head_why hh)
  | ok f k =>
    by_cases h1 : 2048 < f + k + 7
    · rw [readF_long hh h1] at h; cases h
    · by_cases h2 : l.length < f + k + 7
      · rw [readF_short hh h1 h2] at h; cases h
      · by_cases h3 : trailB ((l.drop (f + k)).take 7) = false ∨ k = 0 ∨ l[f + k - 1]! ≠ 1
        · rw [readF_body hh h1 h2 h3] at h; cases h
        · by_cases h4 : (l.drop (f + k)).take 7 ≠ lastL (l.take (f + k))
          · rw [readF_trail hh h1 h2 h3 h4] at h; cases h
          · have hr := readF_parts hh h1 h2 h3 h4
            cases hp : partsF l f (f + k) f ⟨#[]⟩ [] with
            | bad p e => rw [hr, hp] at h; exact absurd h (partsF_why hp)
            | ok kind xs =>
              rw [hp] at hr
              exact ⟨f, k, kind, xs, rfl, h1, h2, h3, Classical.not_not.1 h4, hp, hr⟩
/-- What was decoded is the one form of it. -/
theorem read_inv {l : List Int} (hB : isBytes l) (h : (readF l).why = 0) : encF (readF l).kind (readF l).tags = (0, l.take (readF l).size) ∧ 18 ≤ (readF l).size ∧ (readF l).size ≤ l.length := by
  obtain ⟨f, k, kind, xs, hh, h1, h2, h3, h4, hp, hr⟩ := readF_ok_parts h
  obtain ⟨q1, q2, q3⟩ := head_inv hB hh
  have hk0 : k ≠ 0 := fun h => h3 (.inr (.inl h))
  have hb1 : l[f + k - 1]! = 1 := Classical.not_not.1 fun h => h3 (.inr (.inr h))
  have hlt : f < f + k := by omega
  have hin := first_in hlt (by omega) hb1
  have hdp := decL_pos k
  rw [hr]
  refine ⟨?_, by show 18 ≤ f + k + 7; omega, by show f + k + 7 ≤ l.length; omega⟩
  show encF kind xs = (0, l.take (f + k + 7))
  rcases htk : takeF (fieldAt l f) (decide (f = f)) ⟨#[]⟩ [] with ⟨e, k1, xs1⟩
  have he : e = 0 := by
    by_cases he : e = 0
    · exact he
    · rw [partsF_bad hlt htk he] at hp; cases hp
  subst he
  rw [partsF_step hlt htk] at hp
  rw [decide_eq_true rfl] at htk
  cases hN : fieldN (fieldAt l f) with
  | none => rw [takeF_none hN] at htk; cases htk
  | some n =>
    rw [takeF_first hN] at htk
    by_cases hc : n ≠ 35 ∨ kindB (fieldV (fieldAt l f)) = false
    · rw [if_pos hc] at htk; cases htk
    · rw [if_neg hc] at htk
      cases htk
      obtain ⟨g1, zs, g2, g3, g4, g5⟩ := parts_inv hB (by omega) hb1 (by omega) (by omega) (Nat.zero_le _) hp
      rw [List.nil_append] at g2
      subst g2
      have hn : n = 35 := Classical.not_not.1 fun h => hc (.inl h)
      have hkb : kindB (fieldV (fieldAt l f)) = true := by
        cases hq : kindB (fieldV (fieldAt l f)) with
        | true => rfl
        | false => exact absurd (.inr hq) hc
      have hfi : fieldAt l f = fldL n (fieldV (fieldAt l f)) := (fieldN_inv (isBytes_take (isBytes_drop hB)) hN).1
      have hbody : (l.drop f).take k = bodyL kind xs := by
        rw [show k = firstF 1 (l.drop f) + 1 + (f + k - (f + firstF 1 (l.drop f) + 1)) by omega, split_field (by omega), g3]
        unfold bodyL fieldL
        rw [← hn, g1, ← hfi]
      have hbl : (bodyL kind xs).length = k := by rw [← hbody, List.length_take, List.length_drop]; omega
      have hfront : l.take (f + k) = frontL kind xs := by
        rw [List.take_add, q1, hbody]
        unfold frontL
        rw [hbl]
      have hline : l.take (f + k + 7) = lineL kind xs := by
        rw [List.take_add, h4, hfront]
        rfl
      have hll : (lineL kind xs).length = f + k + 7 := by rw [← hline, List.length_take]; omega
      unfold encF
      rw [if_neg (by rw [g1, hkb]; decide), if_neg (by omega), if_neg (fun h => h g4), if_neg (by omega), hline]
end Go.Rx
/- The program's Encode. -/
namespace Go.Rx
open Go Go.RowKit Go.Lib Go.Proofs.YthpejgmkiomfhaaGreatDoor
set_option linter.unusedVariables false
set_option linter.unusedSimpArgs false
structure Sb where
  v : Value
  l : List Int
deriving Inhabited
def Sb.enc (p : Sb) : List Value := [p.v]
theorem get_memS {α : Type} [Inhabited α] {xs : List α} {i : Nat} (h : i < xs.length) : xs[i]! ∈ xs := by
  rw [getElem!_pos xs i h]
  exact List.getElem_mem _
theorem flat_take {α : Type} [Inhabited α] (f : α → List Int) {xs : List α} {i : Nat} (h : i < xs.length) : (xs.take (i + 1)).flatMap f = (xs.take i).flatMap f ++ f xs[i]! := by
  rw [List.take_succ_eq_append_getElem h, List.flatMap_append, getElem!_pos xs i h]
  simp
theorem flat_le {α : Type} (f : α → List Int) (xs : List α) (i : Nat) : ((xs.take i).flatMap f).length ≤ (xs.flatMap f).length := by
  conv => rhs; rw [← List.take_append_drop i xs, List.flatMap_append, List.length_append]
  omega
theorem bytesOf_app (a b : ByteArray) : bytesOf (a ++ b) = bytesOf a ++ bytesOf b := by
  unfold bytesOf
  rw [ByteArray.data_append, Array.toList_append, List.map_append]
theorem bytesOf_dec (n : Nat) : bytesOf (decS n) = decL n := by
  unfold bytesOf decL
  rw [decS_list]
set_option maxHeartbeats 1000000 in
set_option maxRecDepth 100000 in
theorem growNilB {w : World} {m : Nat} (hm : m ≤ 140737488355328) : Spec Go.Proofs.Tryz.prog 91 #[.slice none 0 0, .int .i64 (m : Int)] w [] (fun u N => ∃ A c, u = .slice A 0 c ∧ N = [bytesC (.slice A 0 c) []]) := by
  refine Spec.enter (fn := Go.Proofs.Tryz.f91) (n := 27) [.slice none 0 0, .int .i64 (m : Int)] Go.Proofs.Tryz.func91 (by kernel_rfl) rfl Go.Proofs.Tryz.ntmps91 Go.Proofs.Tryz.results91 rfl (Own.nil _) ?_
  refine JC.rs ?_
  refine Seq.p rfl Ev.assign ?_
  refine Seq.nil ?_
  refine JC.seq ?_
  refine JC.rs ?_
  refine Seq.p rfl Ev.move ?_
  refine Seq.p rfl Ev.lt ?_
  refine Seq.nil ?_
  first | refine JC.c (ht := fun c6 => ?_) (hf := fun c6 => ?_) | refine JC.cb (ht := fun c6 => ?_) (hf := fun c6 => ?_)
  · -- then_t6
    exfalso; omega
  · -- else_t6
    refine JC.skip ?_
    refine JC.seq ?_
    refine JC.rs ?_
    refine Seq.p rfl Ev.move ?_
    refine Seq.p rfl Ev.move ?_
    refine Seq.p rfl (Ev.capSl sl.sl_uint8) ?_
    refine Seq.p rfl Ev.move ?_
    refine Seq.p rfl (Ev.lenSl sl.sl_uint8 (hr := (RSl.empty byteEnc 1 _ []).r)) ?_
    refine Seq.p rfl (Ev.sub (h := by decide)) ?_
    have e1 : ((0 : Nat) : Int) - ((List.length ([] : List Int) : Nat) : Int) = 0 := rfl
    rw [e1]
    refine Seq.p rfl (Ev.sub) ?_
    rw [Int.sub_zero]
    refine Seq.p rfl Ev.assign ?_
    refine Seq.nil ?_
    refine JC.rs ?_
    refine Seq.p rfl Ev.move ?_
    refine Seq.p rfl Ev.gt ?_
    refine Seq.nil ?_
    first | refine JC.c (ht := fun c16 => ?_) (hf := fun c16 => ?_) | refine JC.cb (ht := fun c16 => ?_) (hf := fun c16 => ?_)
    · -- then_t16
      refine JC.reg ?_
      refine Seq.p rfl Ev.move ?_
      refine Seq.p rfl Ev.move ?_
      refine Seq.p rfl (Ev.capSl sl.sl_uint8) ?_
      refine Seq.p rfl (Ev.cutHi (h := 0) sl.sl_uint8) ?_
      refine Seq.p rfl Ev.move ?_
      refine Seq.growNil (m := m) (hsl := sl.sl_uint8) (he := el.uint8) (hi := it.int) (kk := ?_); intro b22 c22 zs
      refine Seq.p rfl Ev.move ?_
      refine Seq.p rfl (Ev.lenSl sl.sl_uint8 (hr := (RSl.empty byteEnc 1 _ []).r)) ?_
      refine Seq.p rfl (Ev.cutHi (h := 0) sl.sl_uint8) ?_
      refine Seq.re (fun w h => Upd.own0 h At.z) ?_
      refine Seq.p rfl Ev.assign ?_
      refine Seq.nil ?_
      refine JC.rs ?_
      refine Seq.p rfl Ev.move ?_
      refine Seq.p rfl Ev.assign ?_
      refine Seq.nil ?_
      refine JC.ret ?_
      -- return 0
      show retQ _ _ _ _ _ _ _ _
      refine ret1 (hp := Part.refl _) (hpost := ?_)
      exact ⟨_, _, rfl, rfl⟩
    · -- else_t16
      obtain rfl : m = 0 := by omega
      refine JC.re (fun w h => Upd.nilOwn h 5 1) ?_
      refine JC.skip ?_
      refine JC.rs ?_
      refine Seq.p rfl Ev.move ?_
      refine Seq.p rfl Ev.assign ?_
      refine Seq.nil ?_
      refine JC.ret ?_
      -- return 1
      show retQ _ _ _ _ _ _ _ _
      refine ret1 (hp := Part.refl _) (hpost := ?_)
      exact ⟨_, _, rfl, rfl⟩
set_option maxHeartbeats 1000000 in
set_option maxRecDepth 100000 in
theorem concatBytes {w : World} {v : Value} {ps : List Sb} (hr : RSl Sb.enc 1 w [] v ps) (hp : ∀ p ∈ ps, RSl byteEnc 1 w [] p.v p.l) (hs : (ps.flatMap (·.l)).length ≤ 70368744177664) :
    Spec Go.Proofs.Tryz.prog 59 #[v] w [] (fun u H' => ∃ A c, u = .slice A (ps.flatMap (·.l)).length c ∧ H' = [bytesC (.slice A (ps.flatMap (·.l)).length c) (ps.flatMap (·.l))]) := by
  have hsm := hr.small
  refine Spec.enter (fn := Go.Proofs.Tryz.f59) (n := 36) [v] Go.Proofs.Tryz.func59 (by kernel_rfl) rfl Go.Proofs.Tryz.ntmps59 Go.Proofs.Tryz.results59 rfl (Own.nil _) ?_
  refine JC.rs ?_
  refine Seq.p rfl Ev.assign ?_
  refine Seq.nil ?_
  refine JC.rs ?_
  refine Seq.p rfl Ev.assign ?_
  refine Seq.nil ?_
  refine JC.seq ?_
  refine JC.rs ?_
  refine Seq.p rfl Ev.move ?_
  refine Seq.p rfl (Ev.lenSl sl.sl_sl_uint8 (hr := hr.r)) ?_
  refine Seq.p rfl Ev.move ?_
  refine Seq.nil ?_
  refine JC.blk ?_
  refine JC.loop (α := Nat) (I := fun i e1 H1 => Has [3, 5, 11, 12, 13, 14, 15, 16, 17, 18, 19, 20, 21, 22] [(3, .int .i64 (((ps.take i).flatMap (·.l)).length : Int)), (11, .int .i64 (i : Int))] _ e1 ∧ H1 = _ ∧ i ≤ ps.length) (μ := fun i => ps.length - i) 0 ⟨Has.mk Off.refl (allLook_cons (by repeat (first | exact Look.here | apply Look.there (hne := rfl) | exact Look.const | apply Look.mix rfl | exact Look.arg0 | apply Look.args | exact Look.func)) (allLook_cons (by repeat (first | exact Look.here | apply Look.there (hne := rfl) | exact Look.const | apply Look.mix rfl | exact Look.arg0 | apply Look.args | exact Look.func)) allLook_nil)), rfl, by omega⟩ ?_
  rintro i _ _ ⟨⟨u, rfl⟩, rfl, hi⟩; dsimp only [setL]
  refine JC.rs ?_
  refine Seq.p rfl Ev.lt ?_
  refine Seq.nil ?_
  refine JC.seq ?_
  first | refine JC.c (ht := fun c12 => ?_) (hf := fun c12 => ?_) | refine JC.cb (ht := fun c12 => ?_) (hf := fun c12 => ?_)
  · -- then_t12
    have hi2 : i < ps.length := by omega
    have hft := flat_take (·.l) hi2
    have hfl := flat_le (·.l) ps (i + 1)
    have hfl2 := congrArg List.length hft
    rw [List.length_append] at hfl2
    have hpi := hp _ (get_memS hi2)
    refine JC.skip ?_
    refine JC.seq ?_
    refine JC.blk ?_
    refine JC.rs ?_
    refine Seq.p rfl (Ev.iaN sl.sl_sl_uint8 (hr := hr.r)) ?_
    refine Seq.p rfl (Ev.ldE1 sc.sl_uint8 (hr := hr.r)) ?_
    refine Seq.p rfl Ev.assign ?_
    refine Seq.nil ?_
    refine JC.rs ?_
    refine Seq.p rfl Ev.move ?_
    refine Seq.p rfl Ev.move ?_
    refine Seq.p rfl (Ev.lenSl sl.sl_uint8 (hr := hpi.r)) ?_
    refine Seq.p rfl (Ev.addN (m := ((ps.take i).flatMap (·.l)).length) (c := (ps[i]!).l.length)) ?_
    refine Seq.p rfl Ev.assign ?_
    refine Seq.nil ?_
    refine JC.rs ?_
    refine Seq.p rfl Ev.move ?_
    refine Seq.p rfl Ev.lt ?_
    refine Seq.nil ?_
    first | refine JC.c (ht := fun c20 => ?_) (hf := fun c20 => ?_) | refine JC.cb (ht := fun c20 => ?_) (hf := fun c20 => ?_)
    · -- then_t20
      exfalso; omega
    · -- else_t20
      refine JC.skip ?_
      refine JC.reg ?_
      refine Seq.p rfl (by first | exact Ev.inc | exact Ev.add) ?_
      refine Seq.p rfl Ev.move ?_
      refine Seq.nil ?_
      exact ⟨i + 1, _, Part.refl _, ⟨Has.mk (by repeat (first | refine Off.upd ?_ rfl | exact Off.mix | refine Off.mix2 ?_ rfl | exact Off.refl)) (allLook_cons (by rw [hfl2]; exact (by repeat (first | exact Look.here | apply Look.there (hne := rfl) | exact Look.const | apply Look.mix rfl | exact Look.arg0 | apply Look.args | exact Look.func))) (allLook_cons (by repeat (first | exact Look.here | apply Look.there (hne := rfl) | exact Look.const | apply Look.mix rfl | exact Look.arg0 | apply Look.args | exact Look.func)) allLook_nil)), rfl, by omega⟩, by omega⟩
  · -- else_t12
    obtain rfl : i = ps.length := by omega
    rw [List.take_length]
    refine JC.exit ?_ -- 0
    refine JC.rs ?_
    refine Seq.p rfl Ev.move ?_
    obtain ⟨m, hm⟩ : ∃ m, m = (ps.flatMap (·.l)).length := ⟨_, rfl⟩
    rw [← hm]
    refine Seq.call rfl (fun w' hw => growNilB (m := m) (by omega)) (F := []) (by exact List.Perm.refl _) ?_
    rintro _ _ ⟨A24, c24, rfl, rfl⟩
    simp only [List.cons_append, List.nil_append]
    refine Seq.p rfl Ev.assign ?_
    refine Seq.nil ?_
    refine JC.seq ?_
    refine JC.rs ?_
    refine Seq.p rfl Ev.move ?_
    refine Seq.p rfl (Ev.lenSl sl.sl_sl_uint8 (hr := hr.r)) ?_
    refine Seq.p rfl Ev.move ?_
    refine Seq.nil ?_
    refine JC.blk ?_
    refine JC.loop (α := Nat) (I := fun i e1 H1 => ∃ A c, Has [6, 8, 27, 28, 29, 30, 31, 32, 33, 34] [(6, .slice A ((ps.take i).flatMap (·.l)).length c), (27, .int .i64 (i : Int))] _ e1 ∧ H1 = [bytesC (.slice A ((ps.take i).flatMap (·.l)).length c) ((ps.take i).flatMap (·.l))] ∧ i ≤ ps.length) (μ := fun i => ps.length - i) 0 ⟨A24, c24, Has.mk Off.refl (allLook_cons (by repeat (first | exact Look.here | apply Look.there (hne := rfl) | exact Look.const | apply Look.mix rfl | exact Look.arg0 | apply Look.args | exact Look.func)) (allLook_cons (by repeat (first | exact Look.here | apply Look.there (hne := rfl) | exact Look.const | apply Look.mix rfl | exact Look.arg0 | apply Look.args | exact Look.func)) allLook_nil)), rfl, by omega⟩ ?_
    rintro i _ _ ⟨A, c, ⟨u2, rfl⟩, rfl, hi⟩; dsimp only [setL]
    refine JC.rs ?_
    refine Seq.p rfl Ev.lt ?_
    refine Seq.nil ?_
    refine JC.seq ?_
    first | refine JC.c (ht := fun c28 => ?_) (hf := fun c28 => ?_) | refine JC.cb (ht := fun c28 => ?_) (hf := fun c28 => ?_)
    · -- then_t28
      have hi2 : i < ps.length := by omega
      have hft := flat_take (·.l) hi2
      have hfl := flat_le (·.l) ps (i + 1)
      have hfl2 := congrArg List.length hft
      rw [List.length_append] at hfl2
      have hpi := hp _ (get_memS hi2)
      refine JC.skip ?_
      refine JC.seq ?_
      refine JC.blk ?_
      refine JC.rs ?_
      refine Seq.p rfl (Ev.iaN sl.sl_sl_uint8 (hr := hr.r)) ?_
      refine Seq.p rfl (Ev.ldE1 sc.sl_uint8 (hr := hr.r)) ?_
      refine Seq.p rfl Ev.assign ?_
      refine Seq.nil ?_
      refine JC.reg ?_
      refine Seq.p rfl Ev.move ?_
      refine Seq.p rfl Ev.move ?_
      refine Seq.append (hsl := sl.sl_uint8) (he := el.uint8) (hsrc := (fun w' hw => Src.rsl sl.sl_uint8 (hpi.up hw) (by omega) byteOne)) (k := ?_); intro A33 c33
      refine Seq.p rfl Ev.assign ?_
      refine Seq.nil ?_
      refine JC.reg ?_
      refine Seq.p rfl (by first | exact Ev.inc | exact Ev.add) ?_
      refine Seq.p rfl Ev.move ?_
      refine Seq.nil ?_
      refine ⟨i + 1, _, Part.refl _, ⟨A33, c33, Has.mk (by repeat (first | refine Off.upd ?_ rfl | exact Off.mix | refine Off.mix2 ?_ rfl | exact Off.refl)) (allLook_cons (by rw [hfl2]; exact (by repeat (first | exact Look.here | apply Look.there (hne := rfl) | exact Look.const | apply Look.mix rfl | exact Look.arg0 | apply Look.args | exact Look.func))) (allLook_cons (by repeat (first | exact Look.here | apply Look.there (hne := rfl) | exact Look.const | apply Look.mix rfl | exact Look.arg0 | apply Look.args | exact Look.func)) allLook_nil)), ?_, by omega⟩, by omega⟩
      rw [hft, bytesC_append _ _ _ _ rfl, List.length_append]
      rfl
    · -- else_t28
      obtain rfl : i = ps.length := by omega
      rw [List.take_length]
      refine JC.exit ?_ -- 2
      refine JC.rs ?_
      refine Seq.p rfl Ev.move ?_
      refine Seq.p rfl Ev.assign ?_
      refine Seq.nil ?_
      refine JC.ret ?_
      -- return 0
      show retQ _ _ _ _ _ _ _ _
      refine ret1 (hp := Part.refl _) (hpost := ?_)
      subst hm
      exact ⟨A, c, rfl, rfl⟩
set_option maxHeartbeats 1000000 in
set_option maxRecDepth 100000 in
theorem textField {w : World} {n : Nat} {v : ByteArray} (hn : n < 10000) (hv : v.size ≤ 70368744177664) (hL : LaidT w) :
    Spec Go.Proofs.Tryz.prog 57 #[.int .i64 (n : Int), .string v] w [] (fun u H' => ∃ A c, u = .slice A (fieldL n v).length c ∧ H' = [bytesC (.slice A (fieldL n v).length c) (fieldL n v)]) := by
  have hd4 := decL_four hn
  have hi : (⟨(itoa (n : Int)).toArray⟩ : ByteArray) = decS n := by rw [itoa_nonneg]; rfl
  have hds : (decS n).size = (decL n).length := by rw [← strOf_dec, strOf_size]
  have hss : (decS n ++ ⟨#[61]⟩ ++ v).size = (fldL n v).length := by
    rw [ByteArray.size_append, ByteArray.size_append, hds, fld_len]
    rfl
  have hbo : bytesOf (decS n ++ ⟨#[61]⟩ ++ v) = fldL n v := by
    rw [bytesOf_app, bytesOf_app, bytesOf_dec]
    unfold fldL
    rw [List.append_assoc]
    rfl
  have hfl := fld_len n v
  refine Spec.enter (fn := Go.Proofs.Tryz.f57) (n := 13) [.int .i64 (n : Int), .string v] Go.Proofs.Tryz.func57 (by kernel_rfl) rfl Go.Proofs.Tryz.ntmps57 Go.Proofs.Tryz.results57 rfl (Own.nil _) ?_
  refine JC.rs ?_
  refine Seq.p rfl Ev.assign ?_
  refine Seq.nil ?_
  refine JC.rs ?_
  refine Seq.p rfl Ev.move ?_
  refine Seq.callP rfl (fun w hw => hi ▸ textItoa (by omega) (by omega) (hL.upd hw)) ?_
  refine Seq.p rfl (Ev.addStr (h := by rw [hds]; show _ + 1 ≤ _; omega)) ?_
  refine Seq.p rfl Ev.move ?_
  refine Seq.p rfl (Ev.addStr (h := by rw [ByteArray.size_append, hds]; show _ + 1 + _ ≤ _; omega)) ?_
  refine Seq.strBytes (hs := st.string) (hd := sl.sl_uint8) (he := it.uint8) (hsz := by omega) (k := ?_); intro b10 c10
  rw [hss, hbo]
  refine Seq.buildSlN [_] (hsl := sl.sl_uint8) (hz := z.uint8) (k := ?_); intro b11
  refine Seq.append (hsl := sl.sl_uint8) (he := el.uint8) (hsrc := (fun w' hw => Src.box (hl := by rfl) (hc := fun q u hu => hu) sl.sl_uint8 At.z hw)) (k := ?_); intro A12 c12
  refine Seq.p rfl Ev.assign ?_
  refine Seq.nil ?_
  refine JC.ret ?_
  -- return 0
  show retQ _ _ _ _ _ _ _ _
  refine ret1 (hp := Part.skip (Part.refl _)) (hpost := ?_)
  refine ⟨A12, c12, ?_, ?_⟩
  · unfold fieldL; rw [List.length_append]; rfl
  · unfold fieldL; rw [bytesC_append _ _ _ _ rfl, List.length_append]; rfl
end Go.Rx
/- The program's Encode is the plain function. -/
namespace Go.Rx
open Go Go.RowKit Go.Lib Go.Proofs.YthpejgmkiomfhaaGreatDoor
set_option linter.unusedVariables false
set_option linter.unusedSimpArgs false
def bodyTo (kind : ByteArray) (xs : List Tg) (i : Nat) : List Int := fieldL 35 kind ++ (xs.take i).flatMap fun t => fieldL t.tag.toNat t.value
theorem bodyTo_succ {kind : ByteArray} {xs : List Tg} {i : Nat} (h : i < xs.length) : bodyTo kind xs (i + 1) = bodyTo kind xs i ++ fieldL (xs[i]!).tag.toNat (xs[i]!).value := by
  unfold bodyTo
  rw [flat_take _ h, List.append_assoc]
theorem bodyTo_le (kind : ByteArray) (xs : List Tg) (i : Nat) : (bodyTo kind xs i).length ≤ (bodyL kind xs).length := by
  unfold bodyTo bodyL
  rw [List.length_append, List.length_append]
  have := flat_le (fun t : Tg => fieldL t.tag.toNat t.value) xs i
  omega
theorem bodyTo_all (kind : ByteArray) (xs : List Tg) : bodyTo kind xs xs.length = bodyL kind xs := by
  unfold bodyTo bodyL
  rw [List.take_length]
theorem bytesOf_begin : bytesOf beginS = beginL := by decide
theorem encE_bad {xs : List Tg} {i : Nat} (hi : i < xs.length) (h : refusedF (xs.take i) xs[i]! ≠ 0) : encE (xs.take i) (xs.drop i) = refusedF (xs.take i) xs[i]! := by
  rw [List.drop_eq_getElem_cons hi, ← getElem!_pos xs i hi]
  unfold encE
  exact if_pos h
theorem encE_next {xs : List Tg} {i : Nat} (hi : i < xs.length) (h : ¬ refusedF (xs.take i) xs[i]! ≠ 0) : encE (xs.take i) (xs.drop i) = encE (xs.take (i + 1)) (xs.drop (i + 1)) := by
  rw [List.drop_eq_getElem_cons hi, ← getElem!_pos xs i hi, List.take_succ_eq_append_getElem hi, ← getElem!_pos xs i hi]
  conv => lhs; unfold encE
  exact if_neg h
theorem encF_kind {kind : ByteArray} {xs : List Tg} (h : kindB kind = false) : encF kind xs = (3, []) := if_pos h
theorem encF_many {kind : ByteArray} {xs : List Tg} (h : ¬ kindB kind = false) (h1 : 64 < xs.length) : encF kind xs = (2, []) := by unfold encF; rw [if_neg h, if_pos h1]
theorem encF_ref {kind : ByteArray} {xs : List Tg} (h : ¬ kindB kind = false) (h1 : ¬ 64 < xs.length) (h2 : encE [] xs ≠ 0) : encF kind xs = (encE [] xs, []) := by unfold encF; rw [if_neg h, if_neg h1, if_pos h2]
theorem encF_long {kind : ByteArray} {xs : List Tg} (h : ¬ kindB kind = false) (h1 : ¬ 64 < xs.length) (h2 : ¬ encE [] xs ≠ 0) (h3 : 2048 < (lineL kind xs).length) : encF kind xs = (2, []) := by unfold encF; rw [if_neg h, if_neg h1, if_neg h2, if_pos h3]
theorem encF_line {kind : ByteArray} {xs : List Tg} (h : ¬ kindB kind = false) (h1 : ¬ 64 < xs.length) (h2 : ¬ encE [] xs ≠ 0) (h3 : ¬ 2048 < (lineL kind xs).length) : encF kind xs = (0, lineL kind xs) := by unfold encF; rw [if_neg h, if_neg h1, if_neg h2, if_neg h3]
theorem decL_nineteen {n : Nat} (h : n ≤ 1099511627776) : (decL n).length ≤ 19 := by
  have h1 := natF_dec (n := n) (by omega)
  have h2 : (decL n).length ≤ 20 := by
    unfold natF at h1
    split at h1
    · cases h1
    · rename_i hc
      rw [strOf_size] at hc
      omega
  rcases Nat.lt_or_ge (decL n).length 20 with h3 | h3
  · omega
  · exfalso
    have s : ∀ k : Nat, ¬ k < 10 → (decDigits k).length = (decDigits (k / 10)).length + 1 := fun k hk => by
      rw [decDigits, dif_neg hk, List.length_append]
      rfl
    have e : ∀ k : Nat, k < 10 → (decDigits k).length = 1 := fun k hk => by rw [decDigits_one hk]; rfl
    have key : ∀ m k : Nat, k < 10 ^ (m + 1) → (decDigits k).length ≤ m + 1 := by
      intro m
      induction m with
      | zero => intro k hk; rw [e k (by simpa using hk)]; exact Nat.le_refl _
      | succ m ih =>
        intro k hk
        by_cases h1 : k < 10
        · rw [e k h1]; omega
        · rw [s k h1]
          have := ih (k / 10) (by rw [Nat.pow_succ] at hk; omega)
          omega
    have h4 := key 18 n (by have : (10 : Nat) ^ (18 + 1) = 10000000000000000000 := by decide
                            omega)
    have h5 : (decL n).length = (decDigits n).length := by unfold decL; rw [List.length_map]
    omega
set_option maxHeartbeats 1000000 in
set_option maxRecDepth 100000 in
theorem textEncode {w : World} {v : Value} {kind : ByteArray} {xs : List Tg} (hr : RSl Tg.enc 2 w [] v xs) (hk : kind.size ≤ 281474976710656) (hsz : ∀ t ∈ xs, t.value.size ≤ 70368744177664) (hb : (bodyL kind xs).length ≤ 1099511627776) (hL : LaidT w) :
    Spec Go.Proofs.Tryz.prog 37 #[.string kind, v] w [] (fun u H' => ∃ A c, u = .tuple #[.slice A (encF kind xs).2.length c, .int .i64 (encF kind xs).1] ∧ H' = [bytesC (.slice A (encF kind xs).2.length c) (encF kind xs).2]) := by
  have hsm := hr.small
  obtain ⟨ec, eb, hef⟩ : ∃ a b, encF kind xs = (a, b) := ⟨_, _, rfl⟩
  rw [hef]
  obtain ⟨f35, hf35⟩ : ∃ f, f = fieldL 35 kind := ⟨_, rfl⟩
  obtain ⟨body, hbody⟩ : ∃ f, f = bodyL kind xs := ⟨_, rfl⟩
  obtain ⟨ds, hds0⟩ : ∃ f, f = beginL ++ decL body.length := ⟨_, rfl⟩
  obtain ⟨front, hfront⟩ : ∃ f, f = frontL kind xs := ⟨_, rfl⟩
  obtain ⟨la, hla⟩ : ∃ f, f = lastL front := ⟨_, rfl⟩
  obtain ⟨line, hline⟩ : ∃ f, f = lineL kind xs := ⟨_, rfl⟩
  have hll : line = front ++ la := by rw [hline, hla, hfront]; rfl
  have hl7 : la.length = 7 := by rw [hla]; rfl
  have hll3 : line.length = front.length + 7 := by rw [hll, List.length_append, hl7]
  have hd19 := decL_nineteen hb
  have hfl := front_len kind xs
  rw [← hfront] at hfl
  rw [← hbody] at hb hd19 hfl
  have hdl : ds.length = 10 + (decL body.length).length := by rw [hds0, List.length_append]; rfl
  have hdz : (decS body.length).size = (decL body.length).length := by rw [← strOf_dec, strOf_size]
  have hit : (⟨(itoa (body.length : Int)).toArray⟩ : ByteArray) = decS body.length := by rw [itoa_nonneg]; rfl
  have hss : (beginS ++ decS body.length).size = ds.length := by rw [ByteArray.size_append, hdl, hdz]; rfl
  have hbo : bytesOf (beginS ++ decS body.length) = ds := by rw [bytesOf_app, bytesOf_dec, bytesOf_begin, hds0]
  have hfe : front = ds ++ [1] ++ body := by rw [hfront, hds0, hbody]; rfl
  have hBl : isBytes la := by rw [hla]; exact isBytes_last _
  have hfB : isBytes front := by
    rw [hfe]
    intro x hx
    rcases List.mem_append.1 hx with hx | hx
    · rcases List.mem_append.1 hx with hx | hx
      · rw [hds0] at hx
        rcases List.mem_append.1 hx with hx | hx
        · have hbb : isBytes beginL := by
            intro x hx
            simp only [beginL, List.mem_cons, List.not_mem_nil, or_false] at hx
            omega
          exact hbb x hx
        · exact decL_bytes _ x hx
      · rw [List.mem_singleton.1 hx]; decide
    · have hfb : ∀ (n : Nat) (v : ByteArray), isBytes (fieldL n v) := fun n v y hy => by
        unfold fieldL fldL at hy
        rcases List.mem_append.1 hy with hy | hy
        · rcases List.mem_append.1 hy with hy | hy
          · exact decL_bytes _ y hy
          · rcases List.mem_cons.1 hy with rfl | hy
            · decide
            · exact bytesOf_range _ y hy
        · rw [List.mem_singleton.1 hy]; decide
      rw [hbody] at hx
      unfold bodyL at hx
      rcases List.mem_append.1 hx with hx | hx
      · exact hfb _ _ x hx
      · obtain ⟨t, _, ht⟩ := List.mem_flatMap.1 hx
        exact hfb _ _ x ht
  have hsl : strOf la = strOf (lastL front) := by rw [hla]
  have hslz : (strOf la).size = la.length := strOf_size la
  have hslb : bytesOf (strOf la) = la := bytesOf_str hBl
  refine Spec.enter (fn := Go.Proofs.Tryz.f37) (n := 61) [.string kind, v] Go.Proofs.Tryz.func37 (by kernel_rfl) rfl Go.Proofs.Tryz.ntmps37 Go.Proofs.Tryz.results37 rfl (Own.nil _) ?_
  refine JC.re (fun w h => h.nilOwn 5 1) ?_
  refine JC.rs ?_
  refine Seq.p rfl Ev.assign ?_
  refine Seq.p rfl Ev.assign ?_
  refine Seq.nil ?_
  refine JC.seq ?_
  refine JC.blk ?_
  refine JC.rs ?_
  refine Seq.p rfl Ev.move ?_
  refine Seq.callP rfl (fun w hw => textIsKind hk) ?_
  refine Seq.p rfl Ev.not ?_
  refine Seq.p rfl Ev.assign ?_
  refine Seq.nil ?_
  first | refine JC.c (ht := fun c11 => ?_) (hf := fun c11 => ?_) | refine JC.cb (ht := fun c11 => ?_) (hf := fun c11 => ?_)
  · -- then_t11
    have h1 : kindB kind = false := by simpa using c11
    refine JC.rs ?_
    refine Seq.p rfl Ev.assign ?_
    refine Seq.p rfl Ev.assign ?_
    refine Seq.nil ?_
    refine JC.ret ?_
    -- return 0
    show retQ _ _ _ _ _ _ _ _
    refine ret2 (H' := [bytesC (.slice none 0 0) []]) (hp := (by repeat (first | exact Part.nil _ | refine Part.at (by repeat (first | exact At.z | apply At.s)) ?_))) (hpost := ?_)
    rw [encF_kind h1] at hef
    cases hef
    exact ⟨none, 0, rfl, rfl⟩
  · -- else_t11
    have h1 : ¬ kindB kind = false := by simpa using c11
    refine JC.rs ?_
    refine Seq.p rfl Ev.move ?_
    refine Seq.p rfl (Ev.lenSl sl.sl_api_Tag (hr := hr.r)) ?_
    refine Seq.p rfl Ev.gt ?_
    refine Seq.p rfl Ev.assign ?_
    refine Seq.nil ?_
    first | refine JC.c (ht := fun c15 => ?_) (hf := fun c15 => ?_) | refine JC.cb (ht := fun c15 => ?_) (hf := fun c15 => ?_)
    · -- then_t15
      refine JC.rs ?_
      refine Seq.p rfl Ev.assign ?_
      refine Seq.p rfl Ev.assign ?_
      refine Seq.nil ?_
      refine JC.ret ?_
      -- return 1
      show retQ _ _ _ _ _ _ _ _
      refine ret2 (H' := [bytesC (.slice none 0 0) []]) (hp := (by repeat (first | exact Part.nil _ | refine Part.at (by repeat (first | exact At.z | apply At.s)) ?_))) (hpost := ?_)
      rw [encF_many h1 (by omega)] at hef
      cases hef
      exact ⟨none, 0, rfl, rfl⟩
    · -- else_t15
      have h2 : ¬ 64 < xs.length := by omega
      have hb0 : bodyTo kind xs 0 = f35 := by rw [hf35]; simp [bodyTo]
      have hkz : kind.size ≤ 70368744177664 := by
        have h5 := bodyTo_le kind xs 0
        rw [hb0, hf35, field_len, ← hbody] at h5
        omega
      refine JC.skip ?_
      refine JC.rs ?_
      refine Seq.p rfl Ev.move ?_
      refine Seq.call rfl (fun w' hw => by have h := textField (n := 35) (by decide) hkz (hL.upd hw); rw [← hf35] at h; exact h) (F := _) (by exact List.Perm.refl _) ?_
      rintro _ _ ⟨A20, c20, rfl, rfl⟩
      simp only [List.cons_append, List.nil_append]
      refine Seq.p rfl Ev.assign ?_
      refine Seq.nil ?_
      refine JC.seq ?_
      refine JC.rs ?_
      refine Seq.p rfl Ev.move ?_
      refine Seq.p rfl (Ev.lenSl sl.sl_api_Tag (hr := hr.r)) ?_
      refine Seq.p rfl Ev.move ?_
      refine Seq.nil ?_
      refine JC.blk ?_
      refine JC.loop (α := Nat) (I := fun i e1 H1 => ∃ A c m, Has [4, 5, 6, 7, 8, 9, 23, 24, 25, 26, 27, 28, 29, 30, 31, 32, 33, 34, 35, 36, 37, 38, 39, 40, 41, 42, 43] [(6, .slice A m.length c), (23, .int .i64 (i : Int))] _ e1 ∧ H1 = [bytesC (.slice A m.length c) m, bytesC (.slice none 0 0) []] ∧ i ≤ xs.length ∧ encE (xs.take i) (xs.drop i) = encE [] xs ∧ m = bodyTo kind xs i) (μ := fun i => xs.length - i) 0 ⟨A20, c20, f35, Has.mk Off.refl (allLook_cons (by repeat (first | exact Look.here | apply Look.there (hne := rfl) | exact Look.const | apply Look.mix rfl | exact Look.arg0 | apply Look.args | exact Look.func)) (allLook_cons (by repeat (first | exact Look.here | apply Look.there (hne := rfl) | exact Look.const | apply Look.mix rfl | exact Look.arg0 | apply Look.args | exact Look.func)) allLook_nil)), rfl, by omega, rfl, hb0.symm⟩ ?_
      rintro i _ _ ⟨A, c, m, ⟨u, rfl⟩, rfl, hi, he, hm⟩; dsimp only [setL]
      refine JC.rs ?_
      refine Seq.p rfl Ev.lt ?_
      refine Seq.nil ?_
      refine JC.seq ?_
      first | refine JC.c (ht := fun c24 => ?_) (hf := fun c24 => ?_) | refine JC.cb (ht := fun c24 => ?_) (hf := fun c24 => ?_)
      · -- then_t24
        have hi2 : i < xs.length := by omega
        have htake : RSl Tg.enc 2 w [] (subSl v 0 i 2) (xs.take i) := by
          have h3 := hr.sub (lo := 0) (hi := i) (by omega) (by omega)
          rwa [List.drop_zero] at h3
        have hvs := hsz _ (get_memS hi2)
        refine JC.skip ?_
        refine JC.seq ?_
        refine JC.blk ?_
        refine JC.rs ?_
        refine Seq.p rfl Ev.move ?_
        refine Seq.p rfl (Ev.iaN sl.sl_api_Tag (hr := hr.r)) ?_
        refine Seq.p rfl (Ev.ldEA ag.api_Tag (hr := hr.r)) ?_
        refine Seq.alloc (cs := [_, _]) (hz := z.api_Tag) (k := ?_); intro b8
        refine Seq.p rfl Ev.assign ?_
        refine Seq.storeN [_, _] sz.api_Tag (k := ?_)
        refine Seq.nil ?_
        refine JC.seq ?_
        refine JC.qs mixed (by kernel_rfl) ?_
        refine Qui.p rfl Ev.move ?_
        refine Qui.p rfl Ev.move ?_
        refine Qui.p rfl (Ev.cut sl.sl_api_Tag (hr := hr.r) (l := 0) (h := i) (hlo := rfl) (hhi := ⟨_, (by repeat (first | exact Look.here | apply Look.there (hne := rfl) | exact Look.const | apply Look.mix rfl | exact Look.arg0 | apply Look.args | exact Look.func))⟩)) ?_
        refine Qui.p rfl (Ev.ldBA ag.api_Tag) ?_
        refine Qui.call rfl (fun w hw => textRefused (t := xs[i]!) (htake.up hw) (by omega)) ?_
        refine Qui.p rfl Ev.assign ?_
        refine Qui.nil ?_
        refine JC.rs ?_
        refine Seq.p rfl Ev.move ?_
        refine Seq.p rfl Ev.ne ?_
        refine Seq.nil ?_
        first | refine JC.c (ht := fun c34 => ?_) (hf := fun c34 => ?_) | refine JC.cb (ht := fun c34 => ?_) (hf := fun c34 => ?_)
        · -- then_t34
          refine JC.rs ?_
          refine Seq.p rfl Ev.move ?_
          refine Seq.p rfl Ev.assign ?_
          refine Seq.p rfl Ev.assign ?_
          refine Seq.nil ?_
          refine JC.ret ?_
          -- return 2
          show retQ _ _ _ _ _ _ _ _
          refine ret2 (H' := [bytesC (.slice none 0 0) []]) (hp := (by repeat (first | exact Part.nil _ | refine Part.at (by repeat (first | exact At.z | apply At.s)) ?_))) (hpost := ?_)
          have h4 := encE_bad hi2 c34
          rw [encF_ref h1 h2 (by rw [← he, h4]; exact c34), ← he, h4] at hef
          cases hef
          exact ⟨none, 0, rfl, rfl⟩
        · -- else_t34
          have h4 := encE_next hi2 c34
          obtain ⟨q1, q2, q3⟩ := refused_ok (Classical.not_not.1 c34)
          obtain ⟨g1, g2, g3⟩ := tag_range q1
          have hbs := bodyTo_succ (kind := kind) hi2
          have hbl := bodyTo_le kind xs (i + 1)
          obtain ⟨fl, hfl2⟩ : ∃ f, f = fieldL (xs[i]!).tag.toNat (xs[i]!).value := ⟨_, rfl⟩
          rw [← hm, ← hfl2] at hbs
          rw [hbs, List.length_append, ← hbody] at hbl
          refine JC.skip ?_
          refine JC.reg ?_
          refine Seq.p rfl Ev.move ?_
          refine Seq.p rfl (Ev.faB fd.api_Tag_0) ?_
          refine Seq.p rfl (Ev.ldB sc.int) ?_
          refine Seq.p rfl (Ev.faB fd.api_Tag_1) ?_
          refine Seq.p rfl (Ev.ldB sc.string) ?_
          refine Seq.call rfl (fun w' hw => by have h := textField (n := (xs[i]!).tag.toNat) g2 hvs (hL.upd hw); rw [← hfl2, g1] at h; exact h) (F := _) (by exact List.Perm.refl _) ?_
          rintro _ _ ⟨A41, c41, rfl, rfl⟩
          simp only [List.cons_append, List.nil_append]
          refine Seq.append (hsl := sl.sl_uint8) (he := el.uint8) (hH := At.s (At.s At.z)) (hsrc := fun w' hw => Src.rsl sl.sl_uint8 (RAt.up (RAt.own (enc := byteEnc) (xs := fl)) hw) (by omega) byteOne) (k := ?_); intro A42 c42
          rw [← bytesC_append (.slice A42 (m.length + fl.length) c42) m fl _ rfl, ← List.length_append]
          refine Seq.p rfl Ev.assign ?_
          refine Seq.nil ?_
          refine JC.reg ?_
          refine Seq.p rfl (by first | exact Ev.inc | exact Ev.add) ?_
          refine Seq.p rfl Ev.move ?_
          refine Seq.nil ?_
          exact ⟨i + 1, [bytesC (.slice A42 (m ++ fl).length c42) (m ++ fl), bytesC (.slice none 0 0) []], (by repeat (first | exact Part.nil _ | refine Part.at (by repeat (first | exact At.z | apply At.s)) ?_)), ⟨A42, c42, m ++ fl, Has.mk (by repeat (first | refine Off.upd ?_ rfl | exact Off.mix | refine Off.mix2 ?_ rfl | exact Off.refl)) (allLook_cons (by repeat (first | exact Look.here | apply Look.there (hne := rfl) | exact Look.const | apply Look.mix rfl | exact Look.arg0 | apply Look.args | exact Look.func)) (allLook_cons (by repeat (first | exact Look.here | apply Look.there (hne := rfl) | exact Look.const | apply Look.mix rfl | exact Look.arg0 | apply Look.args | exact Look.func)) allLook_nil)), rfl, by omega, by rw [← h4]; exact he, hbs.symm⟩, by omega⟩
      · -- else_t24
        obtain rfl : i = xs.length := by omega
        obtain rfl : m = body := by rw [hm, hbody]; exact bodyTo_all kind xs
        rw [List.take_length, List.drop_length] at he
        have h3 : ¬ encE [] xs ≠ 0 := fun h => h (by rw [← he]; rfl)
        refine JC.exit ?_ -- 1
        refine JC.rs ?_
        refine Seq.p rfl Ev.move ?_
        refine Seq.p rfl (Ev.lenSl sl.sl_uint8 (hr := RAt.own (enc := byteEnc) (xs := m))) ?_
        refine Seq.callP rfl (fun w hw => hit ▸ textItoa (by omega) (by omega) (hL.upd hw)) ?_
        refine Seq.p rfl (Ev.addStr (h := by rw [hdz]; show 10 + _ ≤ _; omega)) ?_
        refine Seq.strBytes (hs := st.string) (hd := sl.sl_uint8) (he := it.uint8) (hsz := by show (beginS ++ decS m.length).size ≤ _; omega) (k := ?_); intro b48 c48
        rw [hss, hbo]
        refine Seq.buildSlN _ (hsl := sl.sl_uint8) (hz := z.uint8) (k := ?_); intro b49
        refine Seq.re (fun w h => Upd.boxOwn h (n := 1) (size := 1) At.z rfl (by omega)) ?_
        refine Seq.p rfl Ev.move ?_
        refine Seq.buildSlN [_, _, _] (hsl := sl.sl_sl_uint8) (hz := z.sl_uint8) (k := ?_); intro b51
        obtain ⟨ps, hps⟩ : ∃ ps : List Sb, ps = [⟨.slice (some ⟨b48, 0, none⟩) ds.length c48, ds⟩, ⟨.slice (some ⟨b49, 0, none⟩) 1 1, [1]⟩, ⟨.slice A m.length c, m⟩] := ⟨_, rfl⟩
        have hpf : ps.flatMap (·.l) = front := by rw [hps, hfe]; simp [List.flatMap_cons]
        refine Seq.call rfl (fun w' hw => by
          have h7 := concatBytes (w := w') (v := .slice (some ⟨b51, 0, none⟩) 3 3) (ps := ps) (RAt.up (RAt.box (enc := Sb.enc) (xs := ps) (m := 3) (hH := At.z) (hcs := by rw [hps]; rfl) (hm := by rw [hps]; rfl) (hs := by rw [hps]; show 3 ≤ 4611686018427387904; decide)) hw) (by
            intro p hp
            rw [hps] at hp
            simp only [List.mem_cons, List.not_mem_nil, or_false] at hp
            rcases hp with rfl | rfl | rfl
            · exact RAt.up (RAt.own (enc := byteEnc) (xs := ds)) hw
            · exact RAt.up (RAt.own (enc := byteEnc) (xs := [1]) (hs := by decide)) hw
            · exact RAt.up (RAt.own (enc := byteEnc) (xs := m)) hw) (by rw [hpf]; omega)
          rw [hpf] at h7
          exact h7) (F := _) (by exact List.Perm.refl _) ?_
        rintro _ _ ⟨A52, c52, rfl, rfl⟩
        simp only [List.cons_append, List.nil_append]
        refine Seq.p rfl Ev.assign ?_
        refine Seq.nil ?_
        refine JC.rs ?_
        refine Seq.p rfl Ev.move ?_
        refine Seq.p rfl Ev.move ?_
        refine Seq.callP (v := .string (strOf la)) rfl (fun w' hw => by have h := textLast (RAt.up (RAt.own (enc := byteEnc) (xs := front)) hw) hfB (hL.upd hw); rw [← hsl] at h; exact h) ?_
        refine Seq.append (hsl := sl.sl_uint8) (he := el.uint8) (hH := At.z) (hsrc := fun w' hw => Src.str st.string (strOf la) w') (h63 := by omega) (hb := by omega) (k := ?_); intro A56 c56
        rw [hslz, hslb, ← bytesC_append (.slice A56 (front.length + la.length) c56) front la _ rfl, ← List.length_append, ← hll]
        refine Seq.p rfl Ev.assign ?_
        refine Seq.nil ?_
        refine JC.seq ?_
        refine JC.rs ?_
        refine Seq.p rfl Ev.move ?_
        refine Seq.p rfl (Ev.lenSl sl.sl_uint8 (hr := RAt.own (enc := byteEnc) (xs := line))) ?_
        refine Seq.p rfl Ev.gt ?_
        refine Seq.nil ?_
        first | refine JC.c (ht := fun c59 => ?_) (hf := fun c59 => ?_) | refine JC.cb (ht := fun c59 => ?_) (hf := fun c59 => ?_)
        · -- then_t59
          refine JC.rs ?_
          refine Seq.p rfl Ev.assign ?_
          refine Seq.p rfl Ev.assign ?_
          refine Seq.nil ?_
          refine JC.ret ?_
          -- return 3
          show retQ _ _ _ _ _ _ _ _
          refine ret2 (H' := [bytesC (.slice none 0 0) []]) (hp := (by repeat (first | exact Part.nil _ | refine Part.at (by repeat (first | exact At.z | apply At.s)) ?_))) (hpost := ?_)
          rw [encF_long h1 h2 h3 (by rw [← hline]; omega)] at hef
          cases hef
          exact ⟨none, 0, rfl, rfl⟩
        · -- else_t59
          refine JC.skip ?_
          refine JC.rs ?_
          refine Seq.p rfl Ev.move ?_
          refine Seq.p rfl Ev.assign ?_
          refine Seq.p rfl Ev.assign ?_
          refine Seq.nil ?_
          refine JC.ret ?_
          -- return 4
          show retQ _ _ _ _ _ _ _ _
          refine ret2 (H' := [bytesC (.slice A56 line.length c56) line]) (hp := (by repeat (first | exact Part.nil _ | refine Part.at (by repeat (first | exact At.z | apply At.s)) ?_))) (hpost := ?_)
          rw [encF_line h1 h2 h3 (by rw [← hline]; omega), ← hline] at hef
          cases hef
          exact ⟨A56, c56, rfl, rfl⟩
end Go.Rx
/- The document's numerals and fields, as texts. -/
namespace Go.Rx
open Go Go.RowKit Go.Lib Go.Proofs.YthpejgmkiomfhaaGreatDoor
set_option linter.unusedVariables false
set_option linter.unusedSimpArgs false
theorem decS_small {n : Nat} (h : n < 10) : decS n = strOf [48 + (n : Int)] := ba_ext (by
  rw [decS_list, decDigits_one h, strOf_toList]
  simp only [List.map_cons, List.map_nil]
  congr 2)
theorem decS_big {n : Nat} (h : ¬ n < 10) : decS n = decS (n / 10) ++ strOf [48 + (n : Int) % 10] := ba_ext (by
  rw [decS_list, decDigits, dif_neg h, ByteArray.data_append, Array.toList_append, decS_list, strOf_toList]
  simp only [List.map_cons, List.map_nil]
  congr 3)
set_option maxHeartbeats 1000000 in
set_option maxRecDepth 100000 in
theorem refDecimalStep {w : World} {n : Nat} (hn : n ≤ 18446744073709551615) (ih : ∀ m < n, ∀ w' : World, Spec Go.Proofs.Tryz.prog 32 #[.int .u64 (m : Int)] w' [] (fun u _ => u = .string (decS m))) :
    Spec Go.Proofs.Tryz.prog 32 #[.int .u64 (n : Int)] w [] (fun u _ => u = .string (decS n)) := by
  refine Spec.enter (fn := Go.Proofs.Tryz.f32) (n := 20) [.int .u64 (n : Int)] Go.Proofs.Tryz.func32 (by kernel_rfl) rfl Go.Proofs.Tryz.ntmps32 Go.Proofs.Tryz.results32 rfl (Own.nil _) ?_
  refine JC.rs ?_
  refine Seq.p rfl Ev.assign ?_
  refine Seq.nil ?_
  refine JC.seq ?_
  refine JC.rs ?_
  refine Seq.p rfl Ev.move ?_
  refine Seq.p rfl Ev.lt ?_
  refine Seq.nil ?_
  first | refine JC.c (ht := fun c4 => ?_) (hf := fun c4 => ?_) | refine JC.cb (ht := fun c4 => ?_) (hf := fun c4 => ?_)
  · -- then_t4
    refine JC.rs ?_
    refine Seq.p rfl Ev.move ?_
    refine Seq.p rfl Ev.addU' ?_
    refine Seq.p rfl (Ev.convU8 it.uint64 it.uint8) ?_
    refine Seq.buildSlN _ (hsl := sl.sl_uint8) (hz := z.uint8) (k := ?_); intro b8
    refine Seq.re (fun w h => Upd.boxOwn h (n := 1) (size := 1) At.z rfl (by omega)) ?_
    refine Seq.p rfl (Ev.strOf (l := [48 + (n : Int)]) sl.sl_uint8 it.uint8 st.string (hr := RAt.own (enc := byteEnc) (xs := [48 + (n : Int)]) (hs := by simp))) ?_
    refine Seq.p rfl Ev.assign ?_
    refine Seq.nil ?_
    refine JC.ret ?_
    -- return 0
    show retQ _ _ _ _ _ _ _ _
    refine ret1 (hp := Part.nil _) (hpost := ?_)
    rw [decS_small (by omega)]
  · -- else_t4
    have hi := fun w' => ih (n / 10) (by omega) w'
    have e10 : ((n / 10 : Nat) : Int) = (n : Int) / 10 := by omega
    simp only [e10] at hi
    have hz := decS_facts (n := n / 10) (by omega)
    refine JC.skip ?_
    refine JC.as mixed ?_
    refine Any.p 0 rfl (by kernel_rfl) (by kernel_rfl) (by kernel_rfl) rfl Ev.move ?_
    refine Any.p 1 rfl (by kernel_rfl) (by kernel_rfl) (by kernel_rfl) rfl Ev.quoU ?_
    refine Any.call 2 rfl (by kernel_rfl) (by kernel_rfl) (by kernel_rfl) rfl (fun w hw => hi _) ?_
    refine Any.p 3 rfl (by kernel_rfl) (by kernel_rfl) (by kernel_rfl) rfl Ev.move ?_
    refine Any.p 4 rfl (by kernel_rfl) (by kernel_rfl) (by kernel_rfl) rfl Ev.rem ?_
    refine Any.p 5 rfl (by kernel_rfl) (by kernel_rfl) (by kernel_rfl) rfl Ev.addU' ?_
    refine Any.p 6 rfl (by kernel_rfl) (by kernel_rfl) (by kernel_rfl) rfl (Ev.convU8 it.uint64 it.uint8) ?_
    refine Any.one 7 rfl (by kernel_rfl) ?_
    refine Seq.buildSlN _ (hsl := sl.sl_uint8) (hz := z.uint8) (k := ?_); intro b17
    refine Seq.re (fun w h => Upd.boxOwn h (n := 1) (size := 1) At.z rfl (by omega)) ?_
    refine Seq.nil ⟨(by repeat (first | exact Part.refl _ | exact Part.nil _ | apply Part.here | apply Part.skip)), ?_⟩
    refine Any.one 8 rfl (by kernel_rfl) ?_
    refine Seq.p rfl (Ev.strOf (l := [48 + (n : Int) % 10]) sl.sl_uint8 it.uint8 st.string (hr := RAt.own (enc := byteEnc) (xs := [48 + (n : Int) % 10]) (hs := by simp))) ?_
    refine Seq.nil ⟨(by repeat (first | exact Part.refl _ | exact Part.nil _ | apply Part.here | apply Part.skip)), ?_⟩
    refine Any.p 9 rfl (by kernel_rfl) (by kernel_rfl) (by kernel_rfl) rfl (Ev.addStr (h := by rw [strOf_size]; show _ + 1 ≤ _; omega)) ?_
    refine Any.p 10 rfl (by kernel_rfl) (by kernel_rfl) (by kernel_rfl) rfl Ev.assign ?_
    refine Any.done (by kernel_rfl) ?_
    refine JC.ret ?_
    -- return 1
    show retQ _ _ _ _ _ _ _ _
    refine ret1 (hp := Part.nil _) (hpost := ?_)
    rw [decS_big (n := n) (by omega)]
theorem refDecimal {w : World} {n : Nat} (hn : n ≤ 18446744073709551615) : Spec Go.Proofs.Tryz.prog 32 #[.int .u64 (n : Int)] w [] (fun u _ => u = .string (decS n)) := by
  induction n using Nat.strongRecOn generalizing w with
  | ind n ih => exact refDecimalStep hn (fun m hm w' => ih m hm (by omega))
theorem fieldS_eq (n : Nat) (v : ByteArray) : decS n ++ ⟨#[61]⟩ ++ v ++ ⟨#[1]⟩ = strOf (fieldL n v) := ba_ext (by
  unfold fieldL fldL
  rw [strOf_app, strOf_app, strOf_dec]
  simp only [ByteArray.data_append, Array.toList_append, strOf_toList, List.map_cons]
  have e : (bytesOf v).map (fun n : Int => UInt8.ofNat n.toNat) = v.data.toList := by
    have := strOf_toList (bytesOf v)
    rw [← this, strOf_bytes]
  rw [e]
  simp)
set_option maxHeartbeats 1000000 in
set_option maxRecDepth 100000 in
theorem refField {w : World} {n : Nat} {v : ByteArray} (hn : n < 10000) (hv : v.size ≤ 70368744177664) :
    Spec Go.Proofs.Tryz.prog 83 #[.int .i64 (n : Int), .string v] w [] (fun u _ => u = .string (strOf (fieldL n v))) := by
  have hd4 := decL_four hn
  have hds : (decS n).size = (decL n).length := by rw [← strOf_dec, strOf_size]
  refine Spec.enter (fn := Go.Proofs.Tryz.f83) (n := 12) [.int .i64 (n : Int), .string v] Go.Proofs.Tryz.func83 (by kernel_rfl) rfl Go.Proofs.Tryz.ntmps83 Go.Proofs.Tryz.results83 rfl (Own.nil _) ?_
  refine JC.rs ?_
  refine Seq.p rfl Ev.assign ?_
  refine Seq.nil ?_
  refine JC.rs ?_
  refine Seq.p rfl Ev.move ?_
  refine Seq.p rfl (Ev.convU64 it.int it.uint64) ?_
  refine Seq.callP rfl (fun w hw => refDecimal (by omega)) ?_
  refine Seq.p rfl (Ev.addStr (h := by rw [hds]; show _ + 1 ≤ _; omega)) ?_
  refine Seq.p rfl Ev.move ?_
  refine Seq.p rfl (Ev.addStr (h := by rw [ByteArray.size_append, hds]; show _ + 1 + _ ≤ _; omega)) ?_
  refine Seq.p rfl (Ev.addStr (h := by rw [ByteArray.size_append, ByteArray.size_append, hds]; show _ + 1 + _ + 1 ≤ _; omega)) ?_
  refine Seq.p rfl Ev.assign ?_
  refine Seq.nil ?_
  refine JC.ret ?_
  -- return 0
  show retQ _ _ _ _ _ _ _ _
  refine ret1 (hp := Part.nil _) (hpost := ?_)
  rw [fieldS_eq]
end Go.Rx
/- The laws bourselaw03.TextBack and TextSpoilt give true: the plain part, and TextBack's walk. -/
namespace Go.Rx
open Go Go.RowKit Go.Lib Go.Proofs.YthpejgmkiomfhaaGreatDoor
set_option linter.unusedVariables false
set_option linter.unusedSimpArgs false
theorem one_ok : ∃ one, encF ⟨#[48]⟩ [] = (0, one) ∧ 0 < one.length := by
  have h1 := line_len ⟨#[48]⟩ []
  have h2 : (bodyL ⟨#[48]⟩ []).length = (decL 35).length + 2 + 1 := by
    unfold bodyL
    rw [List.flatMap_nil, List.append_nil, field_len]
    rfl
  have h3 := decL_four (n := 35) (by decide)
  have h4 := decL_four (n := (bodyL ⟨#[48]⟩ []).length) (by omega)
  exact ⟨lineL ⟨#[48]⟩ [], encF_line (by decide) (by decide) (by decide) (by omega), by omega⟩
theorem one_body : (bodyL ⟨#[48]⟩ []).length ≤ 1099511627776 := by
  have h2 : (bodyL ⟨#[48]⟩ []).length = (decL 35).length + 2 + 1 := by
    unfold bodyL
    rw [List.flatMap_nil, List.append_nil, field_len]
    rfl
  have h3 := decL_four (n := 35) (by decide)
  omega
theorem field_bytes (n : Nat) (v : ByteArray) : isBytes (fieldL n v) := fun y hy => by
  unfold fieldL fldL at hy
  rcases List.mem_append.1 hy with hy | hy
  · rcases List.mem_append.1 hy with hy | hy
    · exact decL_bytes _ y hy
    · rcases List.mem_cons.1 hy with rfl | hy
      · decide
      · exact bytesOf_range _ y hy
  · rw [List.mem_singleton.1 hy]; decide
theorem app_bytes {a b : List Int} (ha : isBytes a) (hb : isBytes b) : isBytes (a ++ b) := fun x hx => by
  rcases List.mem_append.1 hx with h | h
  · exact ha x h
  · exact hb x h
theorem line_bytes (kind : ByteArray) (xs : List Tg) : isBytes (lineL kind xs) := by
  have hbb : isBytes beginL := by
    intro x hx
    simp only [beginL, List.mem_cons, List.not_mem_nil, or_false] at hx
    omega
  have h1 : isBytes [1] := by
    intro x hx
    rw [List.mem_singleton.1 hx]; decide
  have hbo : isBytes (bodyL kind xs) := by
    refine app_bytes (field_bytes _ _) fun x hx => ?_
    obtain ⟨t, _, ht⟩ := List.mem_flatMap.1 hx
    exact field_bytes _ _ x ht
  exact app_bytes (app_bytes (app_bytes (app_bytes hbb (decL_bytes _)) h1) hbo) (isBytes_last _)
theorem encF_len (kind : ByteArray) (xs : List Tg) : (encF kind xs).2.length ≤ 2048 := by
  unfold encF
  split
  · exact Nat.zero_le _
  · split
    · exact Nat.zero_le _
    · split
      · exact Nat.zero_le _
      · split
        · exact Nat.zero_le _
        · show (lineL kind xs).length ≤ 2048
          omega
theorem encF_body {kind : ByteArray} {xs : List Tg} {l : List Int} (h : encF kind xs = (0, l)) : (bodyL kind xs).length ≤ 1099511627776 := by
  obtain ⟨_, _, _, h1, _⟩ := encF_ok h
  rw [line_len] at h1
  omega
end Go.Rx
/- The document's Encode is the plain function. -/
namespace Go.Rx
open Go Go.RowKit Go.Lib Go.Proofs.YthpejgmkiomfhaaGreatDoor
set_option linter.unusedVariables false
set_option linter.unusedSimpArgs false
abbrev brsS : ByteArray := ⟨#[66, 82, 83, 46, 49]⟩
theorem decL_one {n : Nat} (h : n < 10) : decL n = [48 + (n : Int)] := by
  unfold decL
  rw [decDigits_one h]
  simp only [List.map_cons, List.map_nil]
  have : n = 0 ∨ n = 1 ∨ n = 2 ∨ n = 3 ∨ n = 4 ∨ n = 5 ∨ n = 6 ∨ n = 7 ∨ n = 8 ∨ n = 9 := by omega
  rcases this with rfl | rfl | rfl | rfl | rfl | rfl | rfl | rfl | rfl | rfl <;> rfl
theorem decL_ten : decL 10 = [49, 48] := by
  unfold decL
  rw [decDigits_two (by decide) (by decide)]
  rfl
theorem front_eq (kind : ByteArray) (xs : List Tg) (body : List Int) (h : body = bodyL kind xs) : strOf (fieldL 8 brsS) ++ strOf (fieldL 9 (decS body.length)) ++ strOf body = strOf (frontL kind xs) := by
  rw [← strOf_app, ← strOf_app, h]
  congr 1
  unfold frontL fieldL fldL
  rw [decL_one (by decide), decL_one (by decide), bytesOf_dec]
  have e : bytesOf brsS = [66, 82, 83, 46, 49] := by decide
  rw [e]
  simp [beginL]
theorem last_eq (l : List Int) : fieldL 10 (strOf (threeL (sumB l))) = lastL l := by
  have hs := sumB_range l
  unfold fieldL fldL lastL
  rw [decL_ten, bytesOf_str (by
    intro n hn
    simp only [threeL, List.mem_cons, List.not_mem_nil, or_false] at hn
    omega)]
  rfl
theorem body_bytes (kind : ByteArray) (xs : List Tg) : isBytes (bodyL kind xs) := fun x hx => by
  unfold bodyL at hx
  rcases List.mem_append.1 hx with hx | hx
  · exact field_bytes _ _ x hx
  · obtain ⟨t, _, ht⟩ := List.mem_flatMap.1 hx
    exact field_bytes _ _ x ht
theorem refused_bad {xs : List Tg} {t : Tg} (h : (!tagB t.tag || thereB xs t.tag) = true) : refusedF xs t = 30 := if_pos h
theorem refused_val {xs : List Tg} {t : Tg} (h : (!tagB t.tag || thereB xs t.tag) = false) (h2 : valueB t.value = false) : refusedF xs t = 31 := by
  unfold refusedF
  rw [if_neg (by rw [h]; decide), if_pos (by rw [h2]; rfl)]
theorem refused_none {xs : List Tg} {t : Tg} (h : (!tagB t.tag || thereB xs t.tag) = false) (h2 : valueB t.value = true) : refusedF xs t = 0 := by
  unfold refusedF
  rw [if_neg (by rw [h]; decide), if_neg (by rw [h2]; decide)]
set_option maxHeartbeats 2000000 in
set_option maxRecDepth 100000 in
theorem refEncode {w : World} {v : Value} {kind : ByteArray} {xs : List Tg} (hr : RSl Tg.enc 2 w [] v xs) (hk : kind.size ≤ 281474976710656) (hsz : ∀ t ∈ xs, t.value.size ≤ 70368744177664) (hb : (bodyL kind xs).length ≤ 1099511627776) :
    Spec Go.Proofs.Tryz.prog 52 #[.string kind, v] w [] (fun u H' => ∃ A c, u = .tuple #[.slice A (encF kind xs).2.length c, .int .i64 (encF kind xs).1] ∧ H' = [bytesC (.slice A (encF kind xs).2.length c) (encF kind xs).2]) := by
  have hsm := hr.small
  obtain ⟨ec, eb, hef⟩ : ∃ a b, encF kind xs = (a, b) := ⟨_, _, rfl⟩
  rw [hef]
  obtain ⟨f35, hf35⟩ : ∃ f, f = fieldL 35 kind := ⟨_, rfl⟩
  obtain ⟨body, hbody⟩ : ∃ f, f = bodyL kind xs := ⟨_, rfl⟩
  obtain ⟨front, hfront⟩ : ∃ f, f = frontL kind xs := ⟨_, rfl⟩
  obtain ⟨la, hla⟩ : ∃ f, f = lastL front := ⟨_, rfl⟩
  obtain ⟨line, hline⟩ : ∃ f, f = lineL kind xs := ⟨_, rfl⟩
  have hll : line = front ++ la := by rw [hline, hla, hfront]; rfl
  have hl7 : la.length = 7 := by rw [hla]; rfl
  have hll3 : line.length = front.length + 7 := by rw [hll, List.length_append, hl7]
  have hd19 := decL_nineteen hb
  have hfl := front_len kind xs
  rw [← hfront] at hfl
  rw [← hbody] at hb hd19 hfl
  have hdz : (decS body.length).size = (decL body.length).length := by rw [← strOf_dec, strOf_size]
  have hbs0 := body_bytes kind xs
  rw [← hbody] at hbs0
  have hfB : isBytes front := by
    rw [hfront]
    unfold frontL
    rw [← hbody]
    intro x hx
    rcases List.mem_append.1 hx with hx | hx
    · rcases List.mem_append.1 hx with hx | hx
      · rcases List.mem_append.1 hx with hx | hx
        · simp only [beginL, List.mem_cons, List.not_mem_nil, or_false] at hx
          omega
        · exact decL_bytes _ x hx
      · rw [List.mem_singleton.1 hx]; decide
    · exact hbs0 x hx
  have hlB : isBytes line := by
    rw [hll]
    intro x hx
    rcases List.mem_append.1 hx with hx | hx
    · exact hfB x hx
    · rw [hla] at hx; exact isBytes_last _ x hx
  have hfe := front_eq kind xs body hbody
  rw [← hfront] at hfe
  have hle := last_eq front
  rw [← hla] at hle
  have hsm3 := sumB_range front
  have hfla : strOf front ++ strOf la = strOf line := by rw [← strOf_app, ← hll]
  have hfss : (strOf front).size = front.length := strOf_size _
  have hfbb : bytesOf (strOf front) = front := bytesOf_str hfB
  have hlss : (strOf line).size = line.length := strOf_size _
  have hlbb : bytesOf (strOf line) = line := bytesOf_str hlB
  have h9 : (fieldL 9 (decS body.length)).length = (decL body.length).length + 3 := by rw [field_len, decL_one (by decide), hdz]; simp; omega
  have h8 : (fieldL 8 brsS).length = 8 := by rw [field_len, decL_one (by decide)]; rfl
  obtain ⟨f8, hf8⟩ : ∃ f, f = fieldL 8 brsS := ⟨_, rfl⟩
  obtain ⟨f9, hf9⟩ : ∃ f, f = fieldL 9 (decS body.length) := ⟨_, rfl⟩
  rw [← hf8, ← hf9] at hfe
  rw [← hf8] at h8
  rw [← hf9] at h9
  have hs8 : ∀ w' : World, Spec Go.Proofs.Tryz.prog 83 #[.int .i64 8, .string brsS] w' [] (fun u _ => u = .string (strOf f8)) := fun w' => by
    have h := refField (w := w') (n := 8) (v := brsS) (by decide) (by decide)
    rw [← hf8] at h
    exact h
  have hs9 : ∀ w' : World, Spec Go.Proofs.Tryz.prog 83 #[.int .i64 9, .string (decS body.length)] w' [] (fun u _ => u = .string (strOf f9)) := fun w' => by
    have h := refField (w := w') (n := 9) (v := decS body.length) (by decide) (by omega)
    rw [← hf9] at h
    exact h
  have hs10 : ∀ w' : World, Spec Go.Proofs.Tryz.prog 83 #[.int .i64 10, .string (strOf (threeL (sumB front)))] w' [] (fun u _ => u = .string (strOf la)) := fun w' => by
    have h := refField (w := w') (n := 10) (v := strOf (threeL (sumB front))) (by decide) (by rw [strOf_size]; show 3 ≤ _; omega)
    rw [hle] at h
    exact h
  refine Spec.enter (fn := Go.Proofs.Tryz.f52) (n := 99) [.string kind, v] Go.Proofs.Tryz.func52 (by kernel_rfl) rfl Go.Proofs.Tryz.ntmps52 Go.Proofs.Tryz.results52 rfl (Own.nil _) ?_
  refine JC.re (fun w h => h.nilOwn 5 1) ?_
  refine JC.rs ?_
  refine Seq.p rfl Ev.assign ?_
  refine Seq.p rfl Ev.assign ?_
  refine Seq.nil ?_
  refine JC.seq ?_
  refine JC.rs ?_
  refine Seq.p rfl Ev.move ?_
  refine Seq.callP rfl (fun w hw => refKind hk) ?_
  refine Seq.p rfl Ev.not ?_
  refine Seq.nil ?_
  first | refine JC.c (ht := fun c12 => ?_) (hf := fun c12 => ?_) | refine JC.cb (ht := fun c12 => ?_) (hf := fun c12 => ?_)
  · -- then_t12
    have h1 : kindB kind = false := by simpa using c12
    refine JC.rs ?_
    refine Seq.p rfl Ev.assign ?_
    refine Seq.p rfl Ev.assign ?_
    refine Seq.nil ?_
    refine JC.ret ?_
    -- return 0
    show retQ _ _ _ _ _ _ _ _
    refine ret2 (H' := [bytesC (.slice none 0 0) []]) (hp := (by repeat (first | exact Part.nil _ | refine Part.at (by repeat (first | exact At.z | apply At.s)) ?_))) (hpost := ?_)
    rw [encF_kind h1] at hef
    cases hef
    exact ⟨none, 0, rfl, rfl⟩
  · -- else_t12
    have h1 : ¬ kindB kind = false := by simpa using c12
    refine JC.skip ?_
    refine JC.seq ?_
    refine JC.rs ?_
    refine Seq.p rfl Ev.move ?_
    refine Seq.p rfl (Ev.lenSl sl.sl_api_Tag (hr := hr.r)) ?_
    refine Seq.p rfl Ev.gt ?_
    refine Seq.nil ?_
    first | refine JC.c (ht := fun c15 => ?_) (hf := fun c15 => ?_) | refine JC.cb (ht := fun c15 => ?_) (hf := fun c15 => ?_)
    · -- then_t15
      refine JC.rs ?_
      refine Seq.p rfl Ev.assign ?_
      refine Seq.p rfl Ev.assign ?_
      refine Seq.nil ?_
      refine JC.ret ?_
      -- return 1
      show retQ _ _ _ _ _ _ _ _
      refine ret2 (H' := [bytesC (.slice none 0 0) []]) (hp := (by repeat (first | exact Part.nil _ | refine Part.at (by repeat (first | exact At.z | apply At.s)) ?_))) (hpost := ?_)
      rw [encF_many h1 (by omega)] at hef
      cases hef
      exact ⟨none, 0, rfl, rfl⟩
    · -- else_t15
      have h2 : ¬ 64 < xs.length := by omega
      refine JC.skip ?_
      refine JC.seq ?_
      refine JC.rs ?_
      refine Seq.p rfl Ev.assign ?_
      refine Seq.nil ?_
      refine JC.blk ?_
      refine JC.loop (α := Nat) (I := fun i e1 H1 => Has [4, 5, 6, 16, 17, 18, 19, 20, 21, 22, 23, 24, 25, 26, 27, 28, 29, 30, 31, 32, 33, 34, 35, 36, 37, 38, 39, 40, 41, 42, 43, 44, 45, 46] [(6, .int .i64 (i : Int))] _ e1 ∧ H1 = [bytesC (.slice none 0 0) []] ∧ i ≤ xs.length ∧ encE (xs.take i) (xs.drop i) = encE [] xs ∧ ∀ j < i, (((xs[j]!).tag.toNat : Nat) : Int) = (xs[j]!).tag ∧ (xs[j]!).tag.toNat < 10000) (μ := fun i => xs.length - i) 0 ⟨Has.mk Off.refl (allLook_cons (by repeat (first | exact Look.here | apply Look.there (hne := rfl) | exact Look.const | apply Look.mix rfl | exact Look.arg0 | apply Look.args | exact Look.func)) allLook_nil), rfl, by omega, by simp, by intro j hj; omega⟩ ?_
      rintro i _ _ ⟨⟨u, rfl⟩, rfl, hi, he, hok⟩; dsimp only [setL]
      refine JC.seq ?_
      refine JC.rs ?_
      refine Seq.p rfl Ev.move ?_
      refine Seq.p rfl Ev.move ?_
      refine Seq.p rfl (Ev.lenSl sl.sl_api_Tag (hr := hr.r)) ?_
      refine Seq.p rfl Ev.lt ?_
      refine Seq.nil ?_
      first | refine JC.c (ht := fun c19 => ?_) (hf := fun c19 => ?_) | refine JC.cb (ht := fun c19 => ?_) (hf := fun c19 => ?_)
      · -- then_t19
        have hi2 : i < xs.length := by omega
        have htake : RSl Tg.enc 2 w [] (subSl v 0 i 2) (xs.take i) := by
          have h3 := hr.sub (lo := 0) (hi := i) (by omega) (by omega)
          rwa [List.drop_zero] at h3
        have hvs := hsz _ (get_memS hi2)
        refine JC.skip ?_
        refine JC.seq ?_
        refine JC.blk ?_
        refine JC.seq ?_
        refine JC.qs mixed (by kernel_rfl) ?_
        refine Qui.p rfl Ev.move ?_
        refine Qui.p rfl Ev.move ?_
        refine Qui.p rfl (Ev.iaN sl.sl_api_Tag (hr := hr.r)) ?_
        refine Qui.p rfl (Ev.fa fd.api_Tag_0) ?_
        refine Qui.p rfl (Ev.ldE sc.int (hr := hr.r)) ?_
        refine Qui.call rfl (fun w hw => refIsTag) ?_
        refine Qui.p rfl Ev.not ?_
        refine Qui.p rfl Ev.move ?_
        refine Qui.orG (D := [29, 30, 31, 32, 33, 34, 35, 36, 37, 38, 39]) (d := 29) (t := 39) (k := 10) (hn := fun h29 => ?_) (hx := ?_)
        · repeat (first | refine Qui.gn rfl rfl rfl rfl ?_ | refine Qui.gu rfl rfl rfl ?_)
          refine Qui.p rfl Ev.pickT ?_
          exact Qui.nil ⟨(by repeat (first | with_reducible exact Off.refl | refine Off.upd ?_ rfl | exact Off.mix | refine Off.mix2 ?_ rfl)), Look.here⟩
        apply Exists.intro
        refine ⟨fun h29 => ?_, fun u39 => ?_⟩
        · try simp only [decide_eq_true_eq, decide_eq_false_iff_not, Bool.and_eq_true, Bool.or_eq_true, Bool.not_eq_true', Bool.not_eq_false', Bool.or_eq_false_iff, Bool.and_eq_false_imp] at h29
          refine Qui.gy rfl rfl rfl ?_
          refine Qui.p rfl Ev.move ?_
          refine Qui.gy rfl rfl rfl ?_
          refine Qui.p rfl Ev.move ?_
          refine Qui.gy rfl rfl rfl ?_
          refine Qui.p rfl (Ev.cut sl.sl_api_Tag (hr := hr.r) (l := 0) (h := i) (hlo := rfl) (hhi := ⟨_, (by repeat (first | exact Look.here | apply Look.there (hne := rfl) | exact Look.const | apply Look.mix rfl | exact Look.arg0 | apply Look.args | exact Look.func))⟩)) ?_
          refine Qui.gy rfl rfl rfl ?_
          refine Qui.p rfl Ev.move ?_
          refine Qui.gy rfl rfl rfl ?_
          refine Qui.p rfl Ev.move ?_
          refine Qui.gy rfl rfl rfl ?_
          refine Qui.p rfl (Ev.iaN sl.sl_api_Tag (hr := hr.r)) ?_
          refine Qui.gy rfl rfl rfl ?_
          refine Qui.p rfl (Ev.fa fd.api_Tag_0) ?_
          refine Qui.gy rfl rfl rfl ?_
          refine Qui.p rfl (Ev.ldE sc.int (hr := hr.r)) ?_
          refine Qui.gy rfl rfl rfl ?_
          refine Qui.call rfl (fun w hw => refThere (htake.up hw)) ?_
          refine Qui.p rfl Ev.pickF ?_
          exact Qui.nil ⟨(by repeat (first | with_reducible exact Off.refl | refine Off.upd ?_ rfl | exact Off.mix | refine Off.mix2 ?_ rfl)), Look.here⟩
        refine Qui.nil ?_
        first | refine JC.c (ht := fun c39 => ?_) (hf := fun c39 => ?_) | refine JC.cb (ht := fun c39 => ?_) (hf := fun c39 => ?_)
        · -- then_t39
          refine JC.rs ?_
          refine Seq.p rfl Ev.assign ?_
          refine Seq.p rfl Ev.assign ?_
          refine Seq.nil ?_
          refine JC.ret ?_
          -- return 2
          show retQ _ _ _ _ _ _ _ _
          refine ret2 (H' := [bytesC (.slice none 0 0) []]) (hp := (by repeat (first | exact Part.nil _ | refine Part.at (by repeat (first | exact At.z | apply At.s)) ?_))) (hpost := ?_)
          have h4 := encE_bad hi2 (by rw [refused_bad c39]; decide)
          rw [refused_bad c39] at h4
          rw [encF_ref h1 h2 (by rw [← he, h4]; decide), ← he, h4] at hef
          cases hef
          exact ⟨none, 0, rfl, rfl⟩
        · -- else_t39
          refine JC.skip ?_
          refine JC.rs ?_
          refine Seq.p rfl Ev.move ?_
          refine Seq.p rfl Ev.move ?_
          refine Seq.p rfl (Ev.iaN sl.sl_api_Tag (hr := hr.r)) ?_
          refine Seq.p rfl (Ev.fa fd.api_Tag_1) ?_
          refine Seq.p rfl (Ev.ldE sc.string (hr := hr.r)) ?_
          refine Seq.callP rfl (fun w hw => refIsValue (by omega)) ?_
          refine Seq.p rfl Ev.not ?_
          refine Seq.nil ?_
          first | refine JC.c (ht := fun c46 => ?_) (hf := fun c46 => ?_) | refine JC.cb (ht := fun c46 => ?_) (hf := fun c46 => ?_)
          · -- then_t46
            refine JC.rs ?_
            refine Seq.p rfl Ev.assign ?_
            refine Seq.p rfl Ev.assign ?_
            refine Seq.nil ?_
            refine JC.ret ?_
            -- return 3
            show retQ _ _ _ _ _ _ _ _
            refine ret2 (H' := [bytesC (.slice none 0 0) []]) (hp := (by repeat (first | exact Part.nil _ | refine Part.at (by repeat (first | exact At.z | apply At.s)) ?_))) (hpost := ?_)
            have hq := refused_val c39 (by simpa using c46)
            have h4 := encE_bad hi2 (by rw [hq]; decide)
            rw [hq] at h4
            rw [encF_ref h1 h2 (by rw [← he, h4]; decide), ← he, h4] at hef
            cases hef
            exact ⟨none, 0, rfl, rfl⟩
          · -- else_t46
            have hq := refused_none c39 (by simpa using c46)
            have h4 := encE_next hi2 (fun h => h hq)
            obtain ⟨q1, q2, q3⟩ := refused_ok hq
            obtain ⟨g1, g2, g3⟩ := tag_range q1
            have hok2 : ∀ j < i + 1, (((xs[j]!).tag.toNat : Nat) : Int) = (xs[j]!).tag ∧ (xs[j]!).tag.toNat < 10000 := fun j hj => by
              rcases Nat.lt_or_ge j i with h | h
              · exact hok j h
              · obtain rfl : j = i := by omega
                exact ⟨g1, g2⟩
            refine JC.skip ?_
            refine JC.reg ?_
            refine Seq.p rfl Ev.move ?_
            refine Seq.p rfl (by first | exact Ev.inc | exact Ev.add) ?_
            refine Seq.p rfl Ev.assign ?_
            refine Seq.nil ?_
            exact ⟨i + 1, _, Part.refl _, ⟨Has.mk (by repeat (first | refine Off.upd ?_ rfl | exact Off.mix | refine Off.mix2 ?_ rfl | exact Off.refl)) (allLook_cons (by repeat (first | exact Look.here | apply Look.there (hne := rfl) | exact Look.const | apply Look.mix rfl | exact Look.arg0 | apply Look.args | exact Look.func)) allLook_nil), rfl, by omega, by rw [← h4]; exact he, hok2⟩, by omega⟩
      · -- else_t19
        obtain rfl : i = xs.length := by omega
        rw [List.take_length, List.drop_length] at he
        have h3 : ¬ encE [] xs ≠ 0 := fun h => h (by rw [← he]; rfl)
        have hb0 : bodyTo kind xs 0 = f35 := by rw [hf35]; simp [bodyTo]
        have hkz : kind.size ≤ 70368744177664 := by
          have h5 := bodyTo_le kind xs 0
          rw [hb0, hf35, field_len, ← hbody] at h5
          omega
        refine JC.exit ?_ -- 0
        refine JC.rs ?_
        refine Seq.p rfl Ev.move ?_
        refine Seq.callP (v := .string (strOf f35)) rfl (fun w' hw => by have h := refField (w := w') (n := 35) (v := kind) (by decide) hkz; rw [← hf35] at h; exact h) ?_
        refine Seq.p rfl Ev.assign ?_
        refine Seq.nil ?_
        refine JC.seq ?_
        refine JC.rs ?_
        refine Seq.p rfl Ev.assign ?_
        refine Seq.nil ?_
        refine JC.blk ?_
        refine JC.loop (α := Nat) (I := fun i e1 H1 => ∃ m, Has [4, 5, 7, 8, 49, 50, 51, 52, 53, 54, 55, 56, 57, 58, 59, 60, 61, 62, 63, 64, 65, 66, 67, 68, 69, 70, 71, 72, 73, 74, 75, 76, 77] [(7, .string (strOf m)), (8, .int .i64 (i : Int))] _ e1 ∧ H1 = [bytesC (.slice none 0 0) []] ∧ i ≤ xs.length ∧ m = bodyTo kind xs i) (μ := fun i => xs.length - i) 0 ⟨f35, Has.mk Off.refl (allLook_cons (by repeat (first | exact Look.here | apply Look.there (hne := rfl) | exact Look.const | apply Look.mix rfl | exact Look.arg0 | apply Look.args | exact Look.func)) (allLook_cons (by repeat (first | exact Look.here | apply Look.there (hne := rfl) | exact Look.const | apply Look.mix rfl | exact Look.arg0 | apply Look.args | exact Look.func)) allLook_nil)), rfl, by omega, hb0.symm⟩ ?_
        rintro i _ _ ⟨m, ⟨u, rfl⟩, rfl, hi, hm⟩; dsimp only [setL]
        refine JC.seq ?_
        refine JC.rs ?_
        refine Seq.p rfl Ev.move ?_
        refine Seq.p rfl Ev.move ?_
        refine Seq.p rfl (Ev.lenSl sl.sl_api_Tag (hr := hr.r)) ?_
        refine Seq.p rfl Ev.lt ?_
        refine Seq.nil ?_
        first | refine JC.c (ht := fun c52 => ?_) (hf := fun c52 => ?_) | refine JC.cb (ht := fun c52 => ?_) (hf := fun c52 => ?_)
        · -- then_t52
          have hi2 : i < xs.length := by omega
          have hvs := hsz _ (get_memS hi2)
          have hms : (strOf m).size = m.length := strOf_size m
          have hml := bodyTo_le kind xs i
          rw [← hm, ← hbody] at hml
          obtain ⟨g1, g2⟩ := hok i hi2
          have hbs := bodyTo_succ (kind := kind) hi2
          have hbl := bodyTo_le kind xs (i + 1)
          obtain ⟨fl, hfl2⟩ : ∃ f, f = fieldL (xs[i]!).tag.toNat (xs[i]!).value := ⟨_, rfl⟩
          rw [← hm, ← hfl2] at hbs
          rw [hbs, List.length_append, ← hbody] at hbl
          have hflz : (strOf fl).size = fl.length := strOf_size fl
          have hfll : (xs[i]!).value.size < fl.length := by rw [hfl2, field_len]; omega
          have hspec : ∀ w' : World, Spec Go.Proofs.Tryz.prog 83 #[.int .i64 (xs[i]!).tag, .string (xs[i]!).value] w' [] (fun u _ => u = .string (strOf fl)) := fun w' => by
            have h := refField (w := w') g2 hvs
            rw [g1, ← hfl2] at h
            exact h
          refine JC.skip ?_
          refine JC.seq ?_
          refine JC.blk ?_
          refine JC.seq ?_
          refine JC.rs ?_
          refine Seq.p rfl Ev.move ?_
          refine Seq.p rfl (Ev.lenStr st.string) ?_
          refine Seq.p rfl Ev.move ?_
          refine Seq.p rfl Ev.move ?_
          refine Seq.p rfl (Ev.iaN sl.sl_api_Tag (hr := hr.r)) ?_
          refine Seq.p rfl (Ev.fa fd.api_Tag_1) ?_
          refine Seq.p rfl (Ev.ldE sc.string (hr := hr.r)) ?_
          refine Seq.p rfl (Ev.lenStr st.string) ?_
          refine Seq.p rfl (Ev.addN (m := (strOf m).size) (c := (xs[i]!).value.size)) ?_
          refine Seq.p rfl Ev.gt ?_
          refine Seq.nil ?_
          first | refine JC.c (ht := fun c64 => ?_) (hf := fun c64 => ?_) | refine JC.cb (ht := fun c64 => ?_) (hf := fun c64 => ?_)
          · -- then_t64
            refine JC.rs ?_
            refine Seq.p rfl Ev.assign ?_
            refine Seq.p rfl Ev.assign ?_
            refine Seq.nil ?_
            refine JC.ret ?_
            -- return 4
            show retQ _ _ _ _ _ _ _ _
            refine ret2 (H' := [bytesC (.slice none 0 0) []]) (hp := (by repeat (first | exact Part.nil _ | refine Part.at (by repeat (first | exact At.z | apply At.s)) ?_))) (hpost := ?_)
            rw [encF_long h1 h2 h3 (by rw [← hline]; omega)] at hef
            cases hef
            exact ⟨none, 0, rfl, rfl⟩
          · -- else_t64
            refine JC.skip ?_
            refine JC.quiet mixed (by kernel_rfl) ?_
            refine Qui.p rfl Ev.move ?_
            refine Qui.p rfl Ev.move ?_
            refine Qui.p rfl Ev.move ?_
            refine Qui.p rfl (Ev.iaN sl.sl_api_Tag (hr := hr.r)) ?_
            refine Qui.p rfl (Ev.fa fd.api_Tag_0) ?_
            refine Qui.p rfl (Ev.ldE sc.int (hr := hr.r)) ?_
            refine Qui.p rfl Ev.move ?_
            refine Qui.p rfl Ev.move ?_
            refine Qui.p rfl (Ev.iaN sl.sl_api_Tag (hr := hr.r)) ?_
            refine Qui.p rfl (Ev.fa fd.api_Tag_1) ?_
            refine Qui.p rfl (Ev.ldE sc.string (hr := hr.r)) ?_
            refine Qui.call rfl (fun w hw => hspec _) ?_
            refine Qui.p rfl Ev.addStr ?_
            refine Qui.p rfl Ev.assign ?_
            refine Qui.nil ?_
            refine JC.reg ?_
            refine Seq.p rfl Ev.move ?_
            refine Seq.p rfl (by first | exact Ev.inc | exact Ev.add) ?_
            refine Seq.p rfl Ev.assign ?_
            refine Seq.nil ?_
            exact ⟨i + 1, _, Part.refl _, ⟨m ++ fl, Has.mk (by repeat (first | refine Off.upd ?_ rfl | exact Off.mix | refine Off.mix2 ?_ rfl | exact Off.refl)) (allLook_cons (by rw [strOf_app]; exact (by repeat (first | exact Look.here | apply Look.there (hne := rfl) | exact Look.const | apply Look.mix rfl | exact Look.arg0 | apply Look.args | exact Look.func))) (allLook_cons (by repeat (first | exact Look.here | apply Look.there (hne := rfl) | exact Look.const | apply Look.mix rfl | exact Look.arg0 | apply Look.args | exact Look.func)) allLook_nil)), rfl, by omega, hbs.symm⟩, by omega⟩
        · -- else_t52
          obtain rfl : i = xs.length := by omega
          obtain rfl : m = body := by rw [hm, hbody]; exact bodyTo_all kind xs
          have hms : (strOf m).size = m.length := strOf_size m
          refine JC.exit ?_ -- 2
          refine JC.rs ?_
          refine Seq.callP (v := .string (strOf f8)) rfl (fun w' hw => hs8 w') ?_
          refine Seq.p rfl Ev.move ?_
          refine Seq.p rfl (Ev.lenStr st.string) ?_
          rw [hms]
          refine Seq.p rfl (Ev.convU64 it.int it.uint64) ?_
          refine Seq.callP rfl (fun w hw => refDecimal (by omega)) ?_
          refine Seq.callP (v := .string (strOf f9)) rfl (fun w' hw => hs9 w') ?_
          refine Seq.p rfl (Ev.addStr (h := by rw [strOf_size, strOf_size, h8, h9]; omega)) ?_
          refine Seq.p rfl Ev.move ?_
          refine Seq.p rfl (Ev.addStr (h := by rw [ByteArray.size_append, strOf_size, strOf_size, strOf_size, h8, h9]; omega)) ?_
          rw [hfe]
          refine Seq.p rfl Ev.assign ?_
          refine Seq.nil ?_
          refine JC.rs ?_
          refine Seq.p rfl Ev.move ?_
          refine Seq.p rfl Ev.move ?_
          refine Seq.strBytes (hs := st.string) (hd := sl.sl_uint8) (he := it.uint8) (hsz := by omega) (k := ?_); intro b89 c89
          rw [hfss, hfbb]
          refine Seq.callP rfl (fun w hw => refSum (RAt.up (RAt.own (enc := byteEnc) (xs := front)) hw) hfB) ?_
          refine Seq.callP rfl (fun w hw => refThree hsm3) ?_
          refine Seq.callP (v := .string (strOf la)) rfl (fun w' hw => hs10 w') ?_
          refine Seq.p rfl (Ev.addStr (h := by rw [hfss, strOf_size, hl7]; omega)) ?_
          rw [hfla]
          refine Seq.p rfl Ev.assign ?_
          refine Seq.nil ?_
          refine JC.seq ?_
          refine JC.rs ?_
          refine Seq.p rfl Ev.move ?_
          refine Seq.p rfl (Ev.lenStr st.string) ?_
          refine Seq.p rfl Ev.gt ?_
          refine Seq.nil ?_
          first | refine JC.c (ht := fun c96 => ?_) (hf := fun c96 => ?_) | refine JC.cb (ht := fun c96 => ?_) (hf := fun c96 => ?_)
          · -- then_t96
            refine JC.rs ?_
            refine Seq.p rfl Ev.assign ?_
            refine Seq.p rfl Ev.assign ?_
            refine Seq.nil ?_
            refine JC.ret ?_
            -- return 5
            show retQ _ _ _ _ _ _ _ _
            refine ret2 (H' := [bytesC (.slice none 0 0) []]) (hp := (by repeat (first | exact Part.nil _ | refine Part.at (by repeat (first | exact At.z | apply At.s)) ?_))) (hpost := ?_)
            rw [encF_long h1 h2 h3 (by rw [← hline]; omega)] at hef
            cases hef
            exact ⟨none, 0, rfl, rfl⟩
          · -- else_t96
            refine JC.skip ?_
            refine JC.rs ?_
            refine Seq.p rfl Ev.move ?_
            refine Seq.strBytes (hs := st.string) (hd := sl.sl_uint8) (he := it.uint8) (hsz := by omega) (k := ?_); intro b98 c98
            rw [hlss, hlbb]
            refine Seq.p rfl Ev.assign ?_
            refine Seq.p rfl Ev.assign ?_
            refine Seq.nil ?_
            refine JC.ret ?_
            -- return 6
            show retQ _ _ _ _ _ _ _ _
            refine ret2 (H' := [bytesC (.slice (some ⟨b98, 0, none⟩) line.length c98) line]) (hp := (by repeat (first | exact Part.nil _ | refine Part.at (by repeat (first | exact At.z | apply At.s)) ?_))) (hpost := ?_)
            rw [encF_line h1 h2 h3 (by rw [← hline]; omega), ← hline] at hef
            cases hef
            exact ⟨_, c98, rfl, rfl⟩
end Go.Rx
/- Fields as a line has them; the program's Line. -/
namespace Go.Rx
open Go Go.RowKit Go.Lib Go.Proofs.YthpejgmkiomfhaaGreatDoor
set_option linter.unusedVariables false
set_option linter.unusedSimpArgs false
def tgOf (f : Fld) : Tg := ⟨f.tag, decS f.num.toNat⟩
def Fld.fine (f : Fld) : Prop := 0 ≤ f.num ∧ f.num ≤ 18446744073709551615
set_option maxHeartbeats 2000000 in
set_option maxRecDepth 100000 in
theorem msgTagged {w : World} {v : Value} {fs : List Fld} (hs : RSl Fld.enc 3 w [] v fs) (hf : ∀ f ∈ fs, f.fine) (h8 : fs.length ≤ 64) (hL : LaidT w) :
    Spec Go.Proofs.Tryz.prog 38 #[v] w [] (fun u N => ∃ A c, u = .slice A (fs.map tgOf).length c ∧ N = [tagsC (.slice A (fs.map tgOf).length c) (fs.map tgOf)]) := by
  refine Spec.enter (fn := Go.Proofs.Tryz.f38) (n := 23) [v] Go.Proofs.Tryz.func38 (by kernel_rfl) rfl Go.Proofs.Tryz.ntmps38 Go.Proofs.Tryz.results38 rfl (Own.nil _) ?_
  refine JC.re (fun w h => h.nilOwn 74 2) ?_
  refine JC.rs ?_
  refine Seq.p rfl Ev.assign ?_
  refine Seq.nil ?_
  refine JC.rs ?_
  refine Seq.p rfl Ev.assign ?_
  refine Seq.nil ?_
  refine JC.seq ?_
  refine JC.rs ?_
  refine Seq.p rfl Ev.move ?_
  refine Seq.p rfl (Ev.lenSl sl.sl_message_field (hr := hs.r)) ?_
  refine Seq.p rfl Ev.move ?_
  refine Seq.nil ?_
  refine JC.blk ?_
  refine JC.loop (α := Nat) (I := fun i e1 H1 => ∃ A c xs, Has [3, 5, 8, 9, 10, 11, 12, 13, 14, 15, 16, 17, 18, 19, 20, 21] [(3, .slice A xs.length c), (8, .int .i64 (i : Int))] _ e1 ∧ H1 = [tagsC (.slice A xs.length c) xs] ∧ i ≤ fs.length ∧ xs = (fs.take i).map tgOf) (μ := fun i => fs.length - i) 0 ⟨none, 0, [], Has.mk Off.refl (allLook_cons (by repeat (first | exact Look.here | apply Look.there (hne := rfl) | exact Look.const | apply Look.mix rfl | exact Look.arg0 | apply Look.args | exact Look.func)) (allLook_cons (by repeat (first | exact Look.here | apply Look.there (hne := rfl) | exact Look.const | apply Look.mix rfl | exact Look.arg0 | apply Look.args | exact Look.func)) allLook_nil)), rfl, by omega, rfl⟩ ?_
  rintro i _ _ ⟨A, c, xs, ⟨u, rfl⟩, rfl, hi, hx⟩; dsimp only [setL]
  refine JC.rs ?_
  refine Seq.p rfl Ev.lt ?_
  refine Seq.nil ?_
  refine JC.seq ?_
  first | refine JC.c (ht := fun c9 => ?_) (hf := fun c9 => ?_) | refine JC.cb (ht := fun c9 => ?_) (hf := fun c9 => ?_)
  · -- then_t9
    have hi2 : i < fs.length := by omega
    have hfi := hf _ (get_memS hi2)
    unfold Fld.fine at hfi
    have hxl : xs.length = i := by rw [hx, List.length_map, List.length_take]; omega
    have hxs : xs ++ [tgOf fs[i]!] = (fs.take (i + 1)).map tgOf := by rw [hx, List.take_succ_eq_append_getElem hi2, List.map_append, getElem!_pos fs i hi2]; rfl
    have hdec : ∀ {w' : World} {H : List Chunk}, Upd w w' [] H → Spec Go.Proofs.Tryz.prog 41 #[.int .u64 (fs[i]!).num] w' [] (fun u _ => u = .string (decS (fs[i]!).num.toNat)) := fun hw => by
      have h := textDecimal (u := (fs[i]!).num.toNat) (by omega) (hL.upd hw)
      rw [show (((fs[i]!).num.toNat : Nat) : Int) = (fs[i]!).num by omega] at h
      exact h
    refine JC.skip ?_
    refine JC.seq ?_
    refine JC.blk ?_
    refine JC.rs ?_
    refine Seq.p rfl (Ev.iaN sl.sl_message_field (hr := hs.r)) ?_
    refine Seq.p rfl (Ev.ldEA ag.message_field (hr := hs.r)) ?_
    refine Seq.alloc (cs := [_, _, _]) (hz := z.message_field) (k := ?_); intro b5
    refine Seq.storeN [_, _, _] sz.message_field (k := ?_)
    refine Seq.nil ?_
    refine JC.anyE 1 mixed ?_
    refine Any.p 0 rfl (by kernel_rfl) (by kernel_rfl) (by kernel_rfl) rfl Ev.move ?_
    refine Any.p 1 rfl (by kernel_rfl) (by kernel_rfl) (by kernel_rfl) rfl (Ev.faB fd.message_field_0) ?_
    refine Any.p 2 rfl (by kernel_rfl) (by kernel_rfl) (by kernel_rfl) rfl (Ev.ldB sc.int) ?_
    refine Any.p 3 rfl (by kernel_rfl) (by kernel_rfl) (by kernel_rfl) rfl (Ev.faB fd.message_field_1) ?_
    refine Any.p 4 rfl (by kernel_rfl) (by kernel_rfl) (by kernel_rfl) rfl (Ev.ldB sc.uint64) ?_
    refine Any.call 5 rfl (by kernel_rfl) (by kernel_rfl) (by kernel_rfl) rfl (fun w hw => hdec hw) ?_
    refine Any.p 6 rfl (by kernel_rfl) (by kernel_rfl) (by kernel_rfl) rfl (Ev.buildN [_, _] pl.api_Tag z.api_Tag) ?_
    refine Any.one 7 rfl (by kernel_rfl) ?_
    refine Seq.buildSlN [_, _] (hsl := sl.sl_api_Tag) (hz := z.api_Tag) (k := ?_); intro b19
    refine Seq.nil ⟨(by repeat (first | exact Part.refl _ | exact Part.nil _ | apply Part.here | apply Part.skip)), ?_⟩
    refine Any.one 8 rfl (by kernel_rfl) ?_
    refine Seq.append (hsl := sl.sl_api_Tag) (he := el.api_Tag) (hsrc := (fun w' hw => Src.box (hl := by rfl) (hc := fun q u hu => hu) sl.sl_api_Tag At.z hw)) (k := ?_); intro A20 c20
    refine Seq.nil ⟨(by repeat (first | exact Part.refl _ | exact Part.nil _ | apply Part.here | apply Part.skip)), ?_⟩
    refine Any.p 9 rfl (by kernel_rfl) (by kernel_rfl) (by kernel_rfl) rfl Ev.assign ?_
    refine Any.done (by kernel_rfl) ?_
    refine JC.reg ?_
    refine Seq.p rfl (by first | exact Ev.inc | exact Ev.add) ?_
    refine Seq.p rfl Ev.move ?_
    refine Seq.nil ?_
    have hst : tagsC (.slice A20 (xs ++ [tgOf fs[i]!]).length c20) (xs ++ [tgOf fs[i]!]) = .own 74 2 (.slice A20 (xs.length + 1) c20) (xs.length + 1) (xs.flatMap Tg.enc ++ [.int .i64 (fs[i]!).tag, .string (decS (fs[i]!).num.toNat)]) := by simp [tagsC, Tg.enc, tgOf, List.flatMap_append]
    refine ⟨i + 1, [_], Part.skip (Part.skip (Part.refl _)), ⟨A20, c20, xs ++ [tgOf fs[i]!], Has.mk (by repeat (first | refine Off.upd ?_ rfl | exact Off.mix | refine Off.mix2 ?_ rfl | exact Off.refl)) (allLook_cons (by rw [List.length_append]; exact (by repeat (first | exact Look.here | apply Look.there (hne := rfl) | exact Look.const | apply Look.mix rfl | exact Look.arg0 | apply Look.args | exact Look.func))) (allLook_cons (by repeat (first | exact Look.here | apply Look.there (hne := rfl) | exact Look.const | apply Look.mix rfl | exact Look.arg0 | apply Look.args | exact Look.func)) allLook_nil)), by rw [hst], by omega, hxs⟩, by omega⟩
  · -- else_t9
    obtain rfl : i = fs.length := by omega
    rw [List.take_length] at hx
    subst hx
    refine JC.exit ?_ -- 0
    refine JC.rs ?_
    refine Seq.p rfl Ev.move ?_
    refine Seq.p rfl Ev.assign ?_
    refine Seq.nil ?_
    refine JC.ret ?_
    -- return 0
    show retQ _ _ _ _ _ _ _ _
    refine ret1 (hp := Part.refl _) (hpost := ?_)
    exact ⟨A, c, rfl, rfl⟩
theorem flat_small {α : Type} (f : α → List Int) (k : Nat) : ∀ (xs : List α), (∀ x ∈ xs, (f x).length ≤ k) → (xs.flatMap f).length ≤ k * xs.length
  | [], _ => by simp
  | x :: r, h => by
    have h1 := h x (List.mem_cons_self ..)
    have h2 := flat_small f k r (fun y hy => h y (List.mem_cons_of_mem _ hy))
    rw [List.flatMap_cons, List.length_append, List.length_cons, Nat.mul_add]
    omega
/-- Tags with small values: the body is short. -/
theorem body_short {kind : ByteArray} {xs : List Tg} (hk : kind.size ≤ 2) (hl : xs.length ≤ 64) (hx : ∀ t ∈ xs, t.tag.toNat < 10000 ∧ t.value.size ≤ 20) : (bodyL kind xs).length ≤ 1099511627776 := by
  unfold bodyL
  rw [List.length_append, field_len]
  have h1 := decL_four (n := 35) (by decide)
  have h2 := flat_small (fun t : Tg => fieldL t.tag.toNat t.value) 26 xs (fun t ht => by
    obtain ⟨a, b⟩ := hx t ht
    have := decL_four a
    rw [field_len]
    omega)
  omega
theorem tgOf_fine {f : Fld} (h : f.fine) : (tgOf f).value.size ≤ 20 := by
  unfold Fld.fine at h
  have := decS_facts (n := f.num.toNat) (by omega)
  exact this.2.1
theorem fieldsF_fine {i : Input} (hw : i.Wf) {k : Int} {s : ByteArray} {fs : List Fld} (h : fieldsF i = some (k, s, fs)) : s.size ≤ 2 ∧ ∀ f ∈ fs, f.fine ∧ f.tag.toNat < 10000 := by
  have hup : ∀ t n m : Int, t.toNat < 10000 → (upToF t n m).fine ∧ (upToF t n m).tag.toNat < 10000 := fun t n m ht => ⟨⟨by show 0 ≤ n % _; omega, by show n % _ ≤ _; omega⟩, ht⟩
  have hwh : ∀ t n : Int, t.toNat < 10000 → 0 ≤ n ∧ n ≤ 18446744073709551615 → (wholeF t n).fine ∧ (wholeF t n).tag.toNat < 10000 := fun t n ht hn => ⟨hn, ht⟩
  unfold fieldsF at h
  repeat (first | (split at h) | (simp only [Option.some.injEq, Prod.mk.injEq] at h; obtain ⟨_, rfl, rfl⟩ := h; refine ⟨by show _ ≤ 2; decide, fun f hf => ?_⟩; simp only [List.mem_cons, List.not_mem_nil, or_false] at hf; (repeat (first | (rcases hf with rfl | hf; · first | exact hup _ _ _ (by decide) | exact hwh _ _ (by decide) (by have := hw.id; have := hw.target; have := hw.member; have := hw.qty; have := hw.peak; omega)) | (subst hf; first | exact hup _ _ _ (by decide) | exact hwh _ _ (by decide) (by have := hw.id; have := hw.target; have := hw.member; have := hw.qty; have := hw.peak; omega))))) | cases h)
def lineF (i : Input) : Int × List Int :=
  if toldE i = 0 then match fieldsF i with | some (_, s, fs) => encF s (fs.map tgOf) | none => (0, [])
  else (toldE i, [])
end Go.Rx
/- The program's Line. -/
namespace Go.Rx
open Go Go.RowKit Go.Lib Go.Proofs.YthpejgmkiomfhaaGreatDoor
set_option linter.unusedVariables false
set_option linter.unusedSimpArgs false
def LinePost (l : Int × List Int) (u : Value) (H' : List Chunk) : Prop := ∃ A c, u = .tuple #[.slice A l.2.length c, .int .i64 l.1] ∧ H' = [bytesC (.slice A l.2.length c) l.2]
theorem lineF_err {i : Input} (h : ¬ toldE i = 0) : lineF i = (toldE i, []) := if_neg h
theorem lineF_ok {i : Input} {k : Int} {s : ByteArray} {fs : List Fld} (h : toldE i = 0) (hF : fieldsF i = some (k, s, fs)) : lineF i = encF s (fs.map tgOf) := by
  unfold lineF
  rw [if_pos h, hF]
set_option maxHeartbeats 2000000 in
set_option maxRecDepth 100000 in
theorem msgLine0 {w : World} {i : Input} (hE : ¬ toldE i = 0) : Spec Go.Proofs.Tryz.prog 14 #[.agg i.enc.toArray] w [] (LinePost (lineF i)) := by
  refine Spec.enter (fn := Go.Proofs.Tryz.f14) (n := 26) [.agg i.enc.toArray] Go.Proofs.Tryz.func14 (by kernel_rfl) rfl Go.Proofs.Tryz.ntmps14 Go.Proofs.Tryz.results14 rfl (Own.nil _) ?_
  refine JC.re (fun w h => h.nilOwn 5 1) ?_
  refine JC.rs ?_
  refine Seq.box (cs := [_, _, _, _, _, _, _, _, _, _, _]) (k := ?_); intro b1
  refine Seq.p rfl Ev.assign ?_
  refine Seq.p rfl Ev.assign ?_
  refine Seq.nil ?_
  refine JC.rs ?_
  refine Seq.p rfl (Ev.ldBA ag.api_Input) ?_
  refine Seq.call rfl (fun w hw => msgTold) (F := _) (by exact List.Perm.refl _) ?_
  intro u N hN
  rw [ToldPost, if_neg hE] at hN
  subst hN
  refine Seq.re (fun w h => h.part ⟨N, List.perm_append_comm⟩) ?_
  refine Seq.p rfl Ev.move ?_
  refine Seq.p rfl Ev.extract ?_
  refine Seq.p rfl Ev.extract ?_
  refine Seq.p rfl Ev.extract ?_
  refine Seq.p rfl Ev.extract ?_
  refine Seq.p rfl Ev.extract ?_
  refine Seq.p rfl Ev.assign ?_
  refine Seq.p rfl Ev.assign ?_
  refine Seq.p rfl Ev.assign ?_
  refine Seq.p rfl Ev.assign ?_
  refine Seq.p rfl Ev.assign ?_
  refine Seq.nil ?_
  refine JC.seq ?_
  refine JC.rs ?_
  refine Seq.p rfl Ev.move ?_
  refine Seq.p rfl Ev.ne ?_
  refine Seq.nil ?_
  first | refine JC.c (ht := fun c18 => ?_) (hf := fun c18 => ?_) | refine JC.cb (ht := fun c18 => ?_) (hf := fun c18 => ?_)
  · -- then_t18
    refine JC.rs ?_
    refine Seq.p rfl Ev.move ?_
    refine Seq.p rfl Ev.assign ?_
    refine Seq.p rfl Ev.assign ?_
    refine Seq.nil ?_
    refine JC.ret ?_
    -- return 0
    show retQ _ _ _ _ _ _ _ _
    refine ret2 (H' := [bytesC (.slice none 0 0) []]) (hp := (by repeat (first | exact Part.nil _ | refine Part.at (by repeat (first | exact At.z | apply At.s)) ?_))) (hpost := ?_)
    rw [lineF_err hE]
    exact ⟨none, 0, rfl, rfl⟩
  · -- else_t18
    exact absurd hE c18
set_option maxHeartbeats 2000000 in
set_option maxRecDepth 100000 in
theorem msgLine1 {w : World} {i : Input} (hw0 : i.Wf) (hE : toldE i = 0) (hL : LaidT w) : Spec Go.Proofs.Tryz.prog 14 #[.agg i.enc.toArray] w [] (LinePost (lineF i)) := by
  refine Spec.enter (fn := Go.Proofs.Tryz.f14) (n := 26) [.agg i.enc.toArray] Go.Proofs.Tryz.func14 (by kernel_rfl) rfl Go.Proofs.Tryz.ntmps14 Go.Proofs.Tryz.results14 rfl (Own.nil _) ?_
  refine JC.rs ?_
  refine Seq.box (cs := [_, _, _, _, _, _, _, _, _, _, _]) (k := ?_); intro b1
  refine Seq.p rfl Ev.assign ?_
  refine Seq.p rfl Ev.assign ?_
  refine Seq.nil ?_
  refine JC.rs ?_
  refine Seq.p rfl (Ev.ldBA ag.api_Input) ?_
  refine Seq.call rfl (fun w hw => msgTold) (F := _) (by exact List.Perm.refl _) ?_
  intro u N hN
  rw [ToldPost, if_pos hE] at hN
  obtain ⟨k, s, fs, b1, b3, hF, rfl, rfl⟩ := hN
  have hfl := lineF_ok hE hF
  obtain ⟨hs2, hfi⟩ := fieldsF_fine hw0 hF
  have h7 := fieldsF_small hF
  obtain ⟨xs, hxs⟩ : ∃ x, x = fs.map tgOf := ⟨_, rfl⟩
  have hxl : xs.length = fs.length := by rw [hxs, List.length_map]
  have hxf : ∀ t ∈ xs, t.tag.toNat < 10000 ∧ t.value.size ≤ 20 := fun t ht => by
    rw [hxs] at ht
    obtain ⟨f, hf, rfl⟩ := List.mem_map.1 ht
    exact ⟨(hfi f hf).2, tgOf_fine (hfi f hf).1⟩
  have hbd := body_short (kind := s) hs2 (by omega) hxf
  rw [← hxs] at hfl
  rw [hfl]
  obtain ⟨ec, hec⟩ : ∃ x, x = encF s xs := ⟨_, rfl⟩
  rw [← hec]
  refine Seq.p rfl Ev.move ?_
  refine Seq.p rfl Ev.extract ?_
  refine Seq.p rfl Ev.extract ?_
  refine Seq.p rfl Ev.extract ?_
  refine Seq.p rfl Ev.extract ?_
  refine Seq.p rfl Ev.extract ?_
  refine Seq.p rfl Ev.assign ?_
  refine Seq.p rfl Ev.assign ?_
  refine Seq.p rfl Ev.assign ?_
  refine Seq.p rfl Ev.assign ?_
  refine Seq.p rfl Ev.assign ?_
  refine Seq.nil ?_
  refine JC.seq ?_
  refine JC.rs ?_
  refine Seq.p rfl Ev.move ?_
  refine Seq.p rfl Ev.ne ?_
  refine Seq.nil ?_
  first | refine JC.c (ht := fun c18 => ?_) (hf := fun c18 => ?_) | refine JC.cb (ht := fun c18 => ?_) (hf := fun c18 => ?_)
  · -- then_t18
    exact absurd rfl c18
  · -- else_t18
    refine JC.skip ?_
    refine JC.rs ?_
    refine Seq.p rfl Ev.move ?_
    refine Seq.p rfl Ev.move ?_
    refine Seq.call rfl (fun w' hw => by have h := msgTagged (w := w') (fs := fs) (RAt.up (RAt.box (enc := Fld.enc) (sz := 3) (hs := by omega)) hw) (fun f hf => (hfi f hf).1) (by omega) (hL.upd hw); rw [← hxs] at h; exact h) (F := _) (by exact List.Perm.refl _) ?_
    rintro _ _ ⟨A22, c22, rfl, rfl⟩
    simp only [List.cons_append, List.nil_append]
    refine Seq.call rfl (fun w' hw => by have h := textEncode (w := w') (kind := s) (xs := xs) (RAt.up (RAt.own (enc := Tg.enc) (xs := xs) (hs := by omega)) hw) (by omega) (fun t ht => by have := (hxf t ht).2; omega) hbd (hL.upd hw); rw [← hec] at h; exact h) (F := _) (by exact List.Perm.refl _) ?_
    rintro _ _ ⟨A23, c23, rfl, rfl⟩
    simp only [List.cons_append, List.nil_append]
    refine Seq.p rfl Ev.extract ?_
    refine Seq.p rfl Ev.extract ?_
    refine Seq.p rfl Ev.assign ?_
    refine Seq.p rfl Ev.assign ?_
    refine Seq.nil ?_
    refine JC.ret ?_
    -- return 0
    show retQ _ _ _ _ _ _ _ _
    refine ret2 (H' := [bytesC (.slice A23 ec.2.length c23) ec.2]) (hp := (by repeat (first | exact Part.nil _ | refine Part.at (by repeat (first | exact At.z | apply At.s)) ?_))) (hpost := ?_)
    exact ⟨A23, c23, rfl, rfl⟩
theorem msgLine {w : World} {i : Input} (hw0 : i.Wf) (hL : LaidT w) : Spec Go.Proofs.Tryz.prog 14 #[.agg i.enc.toArray] w [] (LinePost (lineF i)) := by
  by_cases hE : toldE i = 0
  · exact msgLine1 hw0 hE hL
  · exact msgLine0 hE
end Go.Rx
/- The document's Line: plain. -/
namespace Go.Rx
open Go Go.RowKit Go.Lib Go.Proofs.YthpejgmkiomfhaaGreatDoor
set_option linter.unusedVariables false
set_option linter.unusedSimpArgs false
theorem toldE_eq {i : Input} (hw : i.Wf) : toldE i = refE i := by
  have h := congrArg Prod.snd (pack_eq hw)
  unfold packF refPackF at h
  by_cases h1 : toldE i = 0
  · by_cases h2 : refE i = 0
    · rw [h1, h2]
    · rw [if_pos h1, if_neg h2] at h
      exact absurd h.symm h2
  · by_cases h2 : refE i = 0
    · rw [if_neg h1, if_pos h2] at h
      exact absurd h h1
    · rw [if_neg h1, if_neg h2] at h
      exact h
theorem inValF_range {i : Input} (hw : i.Wf) (t : Int) : 0 ≤ (inValF i t).1 ∧ (inValF i t).1 ≤ 18446744073709551615 := by
  unfold inValF
  (repeat' split) <;> first | exact hw.id | exact hw.target | exact hw.qty | exact hw.peak | (dsimp only; omega)
def rfTg (i : Input) (f : RF) : Tg := ⟨f.tag, decS (inValF i f.tag).1.toNat⟩
def letterF (k : Int) : ByteArray := if k = 1 then ⟨#[68]⟩ else if k = 2 then ⟨#[70]⟩ else if k = 3 then ⟨#[71]⟩ else if k = 4 then ⟨#[85, 69]⟩ else ⟨#[]⟩
theorem valsGo_vals {i : Input} : ∀ (l : List RF) (s s' : Input × List Int), valsGo i l s = some s' → s'.2 = s.2 ++ l.map fun f => (inValF i f.tag).1
  | [], s, s', h => by
    simp only [valsGo, Option.some.injEq] at h
    subst h
    simp
  | f :: r, s, s', h => by
    simp only [valsGo] at h
    cases hs : stepF i f s with
    | none => rw [hs] at h; cases h
    | some q =>
      rw [hs] at h
      have h2 := valsGo_vals r q s' h
      unfold stepF at hs
      split at hs
      · cases hs
      · split at hs
        · cases hs
        · simp only [Option.some.injEq] at hs
          subst hs
          rw [h2]
          simp
/-- What is told, told alike. -/
theorem told_same {i : Input} {k : Int} {s : ByteArray} {fs : List Fld} (hF : fieldsF i = some (k, s, fs)) : s = letterF (nameF i) ∧ fs.map tgOf = (refFieldsF (nameF i)).map (rfTg i) := by
  unfold fieldsF at hF
  split at hF
  · rename_i h
    simp only [Option.some.injEq, Prod.mk.injEq] at hF
    obtain ⟨_, rfl, rfl⟩ := hF
    have hn : nameF i = 4 := if_pos h
    rw [hn]
    exact ⟨rfl, rfl⟩
  · rename_i h
    split at hF
    · cases hF
    · rename_i h1
      have h1 : i.kind = 1 := by omega
      split at hF
      · rename_i h2
        simp only [Option.some.injEq, Prod.mk.injEq] at hF
        obtain ⟨_, rfl, rfl⟩ := hF
        have hn : nameF i = 1 := by unfold nameF; rw [if_neg h, if_pos ⟨h1, by omega, by omega⟩, h2]
        rw [hn]
        exact ⟨rfl, rfl⟩
      · split at hF
        · rename_i h2
          simp only [Option.some.injEq, Prod.mk.injEq] at hF
          obtain ⟨_, rfl, rfl⟩ := hF
          have hn : nameF i = 2 := by unfold nameF; rw [if_neg h, if_pos ⟨h1, by omega, by omega⟩, h2]
          rw [hn]
          exact ⟨rfl, rfl⟩
        · split at hF
          · rename_i h2
            simp only [Option.some.injEq, Prod.mk.injEq] at hF
            obtain ⟨_, rfl, rfl⟩ := hF
            have hn : nameF i = 3 := by unfold nameF; rw [if_neg h, if_pos ⟨h1, by omega, by omega⟩, h2]
            rw [hn]
            exact ⟨rfl, rfl⟩
          · cases hF
theorem toldE_some {i : Input} (h : toldE i = 0) : ∃ k s fs, fieldsF i = some (k, s, fs) := by
  unfold toldE at h
  cases hF : fieldsF i with
  | none => rw [hF] at h; cases h
  | some p => obtain ⟨k, s, fs⟩ := p; exact ⟨k, s, fs, rfl⟩
/-- A line as the document tells it. -/
theorem lineF_ref {i : Input} (hw : i.Wf) : lineF i = if refE i = 0 then encF (letterF (nameF i)) ((refFieldsF (nameF i)).map (rfTg i)) else (refE i, []) := by
  by_cases h : toldE i = 0
  · obtain ⟨k, s, fs, hF⟩ := toldE_some h
    obtain ⟨h1, h2⟩ := told_same hF
    rw [lineF_ok h hF, if_pos (by rw [← toldE_eq hw]; exact h), ← h1, ← h2]
  · rw [lineF_err h, if_neg (by rw [← toldE_eq hw]; exact h), toldE_eq hw]
end Go.Rx
/- The document's Line. -/
namespace Go.Rx
open Go Go.RowKit Go.Lib Go.Proofs.YthpejgmkiomfhaaGreatDoor
set_option linter.unusedVariables false
set_option linter.unusedSimpArgs false
def lettersL : List Value := [.string ⟨#[]⟩, .string ⟨#[68]⟩, .string ⟨#[70]⟩, .string ⟨#[71]⟩, .string ⟨#[85, 69]⟩]
theorem letters_at {k : Int} (h : 1 ≤ k ∧ k ≤ 4) : lettersL[k.toNat * 1]? = some (.string (letterF k)) := by
  have : k = 1 ∨ k = 2 ∨ k = 3 ∨ k = 4 := by omega
  rcases this with rfl | rfl | rfl | rfl <;> rfl
theorem letter_size (k : Int) : (letterF k).size ≤ 2 := by
  unfold letterF
  (repeat' split) <;> decide
theorem refLetters {w : World} : Spec Go.Proofs.Tryz.prog 24 #[] w [] (fun u _ => u = .agg lettersL.toArray) := by
  refine Spec.enter (fn := Go.Proofs.Tryz.f24) (n := 2) [] Go.Proofs.Tryz.func24 (by kernel_rfl) rfl Go.Proofs.Tryz.ntmps24 Go.Proofs.Tryz.results24 rfl (Own.nil _) ?_
  refine JC.rs ?_
  refine Seq.alloc (cs := [_, _, _, _, _]) (hz := z.a5_string) (k := ?_); intro b0
  refine Seq.nil ?_
  refine JC.rs ?_
  refine Seq.p rfl (Ev.buildArrN [_, _, _, _, _] ar.a5_string z.a5_string) ?_
  refine Seq.storeN [_, _, _, _, _] sz.a5_string (k := ?_)
  refine Seq.nil ?_
  refine JC.ret ?_
  -- return 0
  show retQ _ _ _ _ _ _ _ _
  refine retB1 ag.a5_string (hp := Part.nil _) (hpost := ?_)
  rfl
theorem row_tags {k : Int} : ∀ f ∈ refFieldsF k, f.tag.toNat < 10000 := by
  intro f hf
  unfold refFieldsF at hf
  (repeat' split at hf) <;> simp only [List.mem_cons, List.not_mem_nil, or_false] at hf <;> (try (rcases hf with rfl | rfl | rfl | rfl | rfl | rfl | rfl)) <;> (try (rcases hf with rfl | rfl | rfl | rfl | rfl)) <;> (try subst hf) <;> first | decide | (show Int.toNat _ < _; decide) | cases hf
set_option maxHeartbeats 2000000 in
set_option maxRecDepth 100000 in
theorem refLine0 {w : World} {i : Input} (hw0 : i.Wf) (hE : ¬ refE i = 0) : Spec Go.Proofs.Tryz.prog 29 #[.agg i.enc.toArray] w [] (LinePost (lineF i)) := by
  have hl := lineF_ref hw0
  rw [if_neg hE] at hl
  rw [hl]
  refine Spec.enter (fn := Go.Proofs.Tryz.f29) (n := 48) [.agg i.enc.toArray] Go.Proofs.Tryz.func29 (by kernel_rfl) rfl Go.Proofs.Tryz.ntmps29 Go.Proofs.Tryz.results29 rfl (Own.nil _) ?_
  refine JC.re (fun w h => h.nilOwn 5 1) ?_
  refine JC.rs ?_
  refine Seq.box (cs := [_, _, _, _, _, _, _, _, _, _, _]) (k := ?_); intro b1
  refine Seq.p rfl Ev.assign ?_
  refine Seq.p rfl Ev.assign ?_
  refine Seq.nil ?_
  refine JC.rs ?_
  refine Seq.p rfl (Ev.ldBA ag.api_Input) ?_
  refine Seq.call rfl (fun w hw => refValues) (F := _) (by exact List.Perm.refl _) ?_
  intro u N hN
  rw [ValuesPost, if_neg hE] at hN
  subst hN
  refine Seq.re (fun w h => h.part ⟨N, List.perm_append_comm⟩) ?_
  refine Seq.p rfl Ev.move ?_
  refine Seq.p rfl Ev.extract ?_
  refine Seq.p rfl Ev.extract ?_
  refine Seq.p rfl Ev.assign ?_
  refine Seq.p rfl Ev.assign ?_
  refine Seq.nil ?_
  refine JC.seq ?_
  refine JC.rs ?_
  refine Seq.p rfl Ev.move ?_
  refine Seq.p rfl Ev.ne ?_
  refine Seq.nil ?_
  first | refine JC.c (ht := fun c15 => ?_) (hf := fun c15 => ?_) | refine JC.cb (ht := fun c15 => ?_) (hf := fun c15 => ?_)
  · -- then_t15
    refine JC.rs ?_
    refine Seq.p rfl Ev.move ?_
    refine Seq.p rfl Ev.assign ?_
    refine Seq.p rfl Ev.assign ?_
    refine Seq.nil ?_
    refine JC.ret ?_
    -- return 0
    show retQ _ _ _ _ _ _ _ _
    refine ret2 (H' := [bytesC (.slice none 0 0) []]) (hp := (by repeat (first | exact Part.nil _ | refine Part.at (by repeat (first | exact At.z | apply At.s)) ?_))) (hpost := ?_)
    exact ⟨none, 0, rfl, rfl⟩
  · -- else_t15
    exact absurd hE c15
set_option maxHeartbeats 2000000 in
set_option maxRecDepth 100000 in
theorem refLine1 {w : World} {i : Input} (hw0 : i.Wf) (hE : refE i = 0) : Spec Go.Proofs.Tryz.prog 29 #[.agg i.enc.toArray] w [] (LinePost (lineF i)) := by
  have hl := lineF_ref hw0
  rw [if_pos hE] at hl
  rw [hl]
  have hsm := refFieldsF_small (nameF i)
  have htg := row_tags (k := nameF i)
  have hlz := letter_size (nameF i)
  obtain ⟨l, hl0⟩ : ∃ l, l = refFieldsF (nameF i) := ⟨_, rfl⟩
  obtain ⟨kd, hkd⟩ : ∃ s, s = letterF (nameF i) := ⟨_, rfl⟩
  rw [← hl0, ← hkd]
  rw [← hl0] at hsm htg
  rw [← hkd] at hlz
  have hbd : (bodyL kd (l.map (rfTg i))).length ≤ 1099511627776 := body_short hlz (by rw [List.length_map]; omega) (fun t ht => by
    obtain ⟨f, hf, rfl⟩ := List.mem_map.1 ht
    have hr := inValF_range hw0 f.tag
    exact ⟨htg f hf, (decS_facts (n := (inValF i f.tag).1.toNat) (by omega)).2.1⟩)
  have htz : ∀ t ∈ l.map (rfTg i), t.value.size ≤ 70368744177664 := fun t ht => by
    obtain ⟨f, hf, rfl⟩ := List.mem_map.1 ht
    have hr := inValF_range hw0 f.tag
    have := (decS_facts (n := (inValF i f.tag).1.toNat) (by omega)).2.1
    show (decS _).size ≤ _
    omega
  obtain ⟨ec, hec⟩ : ∃ x, x = encF kd (l.map (rfTg i)) := ⟨_, rfl⟩
  rw [← hec]
  refine Spec.enter (fn := Go.Proofs.Tryz.f29) (n := 48) [.agg i.enc.toArray] Go.Proofs.Tryz.func29 (by kernel_rfl) rfl Go.Proofs.Tryz.ntmps29 Go.Proofs.Tryz.results29 rfl (Own.nil _) ?_
  refine JC.rs ?_
  refine Seq.box (cs := [_, _, _, _, _, _, _, _, _, _, _]) (k := ?_); intro b1
  refine Seq.p rfl Ev.assign ?_
  refine Seq.p rfl Ev.assign ?_
  refine Seq.nil ?_
  refine JC.rs ?_
  refine Seq.p rfl (Ev.ldBA ag.api_Input) ?_
  refine Seq.call rfl (fun w hw => refValues) (F := _) (by exact List.Perm.refl _) ?_
  intro u N hN
  rw [ValuesPost, if_pos hE] at hN
  obtain ⟨s, A, cc, hn0, hv, rfl, rfl⟩ := hN
  have hls : s.2 = l.map fun f => (inValF i f.tag).1 := by have := valsGo_vals _ _ _ hv; rw [← hl0] at this; simpa using this
  obtain ⟨vs, hvs⟩ : ∃ x, x = s.2 := ⟨_, rfl⟩
  rw [← hvs] at hls
  rw [← hvs]
  have hvl : vs.length = l.length := by rw [hls, List.length_map]
  refine Seq.p rfl Ev.move ?_
  refine Seq.p rfl Ev.extract ?_
  refine Seq.p rfl Ev.extract ?_
  refine Seq.p rfl Ev.assign ?_
  refine Seq.p rfl Ev.assign ?_
  refine Seq.nil ?_
  refine JC.seq ?_
  refine JC.rs ?_
  refine Seq.p rfl Ev.move ?_
  refine Seq.p rfl Ev.ne ?_
  refine Seq.nil ?_
  first | refine JC.c (ht := fun c15 => ?_) (hf := fun c15 => ?_) | refine JC.cb (ht := fun c15 => ?_) (hf := fun c15 => ?_)
  · -- then_t15
    exact absurd rfl c15
  · -- else_t15
    refine JC.skip ?_
    refine JC.rs ?_
    refine Seq.p rfl (Ev.ldBA ag.api_Input) ?_
    refine Seq.callP rfl (fun w hw => refName) ?_
    refine Seq.call rfl (fun w hw => hl0 ▸ refFields (nameF_range i hn0)) (F := _) (by exact List.Perm.refl _) ?_
    rintro _ _ ⟨bl, rfl, rfl⟩
    refine Seq.p rfl Ev.assign ?_
    refine Seq.nil ?_
    refine JC.rs ?_
    refine Seq.p rfl Ev.assign ?_
    refine Seq.re (fun w h => Upd.nilOwn h 74 2) ?_
    refine Seq.nil ?_
    refine JC.seq ?_
    refine JC.rs ?_
    refine Seq.p rfl Ev.assign ?_
    refine Seq.nil ?_
    refine JC.blk ?_
    refine JC.loop (α := Nat) (I := fun k e1 H1 => ∃ A2 c2 xs, Has [7, 8, 20, 21, 22, 23, 24, 25, 26, 27, 28, 29, 30, 31, 32, 33, 34, 35, 36, 37, 38, 39] [(8, .int .i64 (k : Int)), (7, .slice A2 xs.length c2)] _ e1 ∧ H1 = [tagsC (.slice A2 xs.length c2) xs, .box bl 71 (l.flatMap RF.enc), .own 24 1 (.slice A vs.length cc) vs.length (vs.flatMap uenc), .box b1 29 i.enc] ∧ k ≤ l.length ∧ xs = (l.take k).map (rfTg i)) (μ := fun k => l.length - k) 0 ⟨none, 0, [], Has.mk Off.refl (allLook_cons (by repeat (first | exact Look.here | apply Look.there (hne := rfl) | exact Look.const | apply Look.mix rfl | exact Look.arg0 | apply Look.args | exact Look.func)) (allLook_cons (by repeat (first | exact Look.here | apply Look.there (hne := rfl) | exact Look.const | apply Look.mix rfl | exact Look.arg0 | apply Look.args | exact Look.func)) allLook_nil)), rfl, by omega, rfl⟩ ?_
    rintro k _ _ ⟨A2, c2, xs, ⟨ui, rfl⟩, rfl, hk, hx⟩; dsimp only [setL]
    refine JC.seq ?_
    refine JC.rs ?_
    refine Seq.p rfl Ev.move ?_
    refine Seq.p rfl Ev.move ?_
    refine Seq.p rfl (Ev.lenSl sl.sl_bourseref04_field (hr := RAt.box (enc := RF.enc) (sz := 4) (hs := by omega))) ?_
    refine Seq.p rfl Ev.lt ?_
    refine Seq.nil ?_
    first | refine JC.c (ht := fun c23 => ?_) (hf := fun c23 => ?_) | refine JC.cb (ht := fun c23 => ?_) (hf := fun c23 => ?_)
    · -- then_t23
      have hk2 : k < l.length := by omega
      have hvk : vs[k]! = (inValF i (l[k]!).tag).1 := by rw [hls, getElem!_pos _ k (by rw [List.length_map]; exact hk2), List.getElem_map, getElem!_pos l k hk2]
      have hrg := inValF_range hw0 (l[k]!).tag
      rw [← hvk] at hrg
      have hxl : xs.length = k := by rw [hx, List.length_map, List.length_take]; omega
      have hxs : xs ++ [rfTg i l[k]!] = (l.take (k + 1)).map (rfTg i) := by rw [hx, List.take_succ_eq_append_getElem hk2, List.map_append, getElem!_pos l k hk2]; rfl
      have hdec : ∀ w' : World, Spec Go.Proofs.Tryz.prog 32 #[.int .u64 (vs[k]!)] w' [] (fun u _ => u = .string (decS (vs[k]!).toNat)) := fun w' => by
        have h := refDecimal (w := w') (n := (vs[k]!).toNat) (by omega)
        rw [show (((vs[k]!).toNat : Nat) : Int) = vs[k]! by omega] at h
        exact h
      refine JC.skip ?_
      refine JC.seq ?_
      refine JC.blk ?_
      refine JC.anyE 0 mixed ?_
      refine Any.p 0 rfl (by kernel_rfl) (by kernel_rfl) (by kernel_rfl) rfl Ev.move ?_
      refine Any.p 1 rfl (by kernel_rfl) (by kernel_rfl) (by kernel_rfl) rfl Ev.move ?_
      refine Any.p 2 rfl (by kernel_rfl) (by kernel_rfl) (by kernel_rfl) rfl Ev.move ?_
      refine Any.p 3 rfl (by kernel_rfl) (by kernel_rfl) (by kernel_rfl) rfl (Ev.iaN sl.sl_bourseref04_field (hr := RAt.box (enc := RF.enc) (sz := 4) (hs := by omega))) ?_
      refine Any.p 4 rfl (by kernel_rfl) (by kernel_rfl) (by kernel_rfl) rfl (Ev.fa fd.bourseref04_field_0) ?_
      refine Any.p 5 rfl (by kernel_rfl) (by kernel_rfl) (by kernel_rfl) rfl (Ev.ldE sc.int (hr := RAt.box (enc := RF.enc) (sz := 4) (hs := by omega))) ?_
      refine Any.p 6 rfl (by kernel_rfl) (by kernel_rfl) (by kernel_rfl) rfl Ev.move ?_
      refine Any.p 7 rfl (by kernel_rfl) (by kernel_rfl) (by kernel_rfl) rfl Ev.move ?_
      refine Any.p 8 rfl (by kernel_rfl) (by kernel_rfl) (by kernel_rfl) rfl (Ev.iaN sl.sl_uint64 (hr := RAt.own (enc := uenc) (xs := vs) (sz := 1) (hs := by omega))) ?_
      refine Any.p 9 rfl (by kernel_rfl) (by kernel_rfl) (by kernel_rfl) rfl (Ev.ldE1 sc.uint64 (hr := RAt.own (enc := uenc) (xs := vs) (sz := 1) (hs := by omega))) ?_
      refine Any.call 10 rfl (by kernel_rfl) (by kernel_rfl) (by kernel_rfl) rfl (fun w hw => hdec _) ?_
      refine Any.p 11 rfl (by kernel_rfl) (by kernel_rfl) (by kernel_rfl) rfl (Ev.buildN [_, _] pl.api_Tag z.api_Tag) ?_
      refine Any.one 12 rfl (by kernel_rfl) ?_
      refine Seq.buildSlN [_, _] (hsl := sl.sl_api_Tag) (hz := z.api_Tag) (k := ?_); intro b38
      refine Seq.nil ⟨(by repeat (first | exact Part.refl _ | exact Part.nil _ | apply Part.here | apply Part.skip)), ?_⟩
      refine Any.one 13 rfl (by kernel_rfl) ?_
      refine Seq.append (hsl := sl.sl_api_Tag) (he := el.api_Tag) (hsrc := (fun w' hw => Src.box (hl := by rfl) (hc := fun q u hu => hu) sl.sl_api_Tag At.z hw)) (k := ?_); intro A39 c39
      refine Seq.nil ⟨(by repeat (first | exact Part.refl _ | exact Part.nil _ | apply Part.here | apply Part.skip)), ?_⟩
      refine Any.p 14 rfl (by kernel_rfl) (by kernel_rfl) (by kernel_rfl) rfl Ev.assign ?_
      refine Any.done (by kernel_rfl) ?_
      refine JC.reg ?_
      refine Seq.p rfl Ev.move ?_
      refine Seq.p rfl (by first | exact Ev.inc | exact Ev.add) ?_
      refine Seq.p rfl Ev.assign ?_
      refine Seq.nil ?_
      have hst : tagsC (.slice A39 (xs ++ [rfTg i l[k]!]).length c39) (xs ++ [rfTg i l[k]!]) = .own 74 2 (.slice A39 (xs.length + 1) c39) (xs.length + 1) (xs.flatMap Tg.enc ++ [.int .i64 (l[k]!).tag, .string (decS (vs[k]!).toNat)]) := by rw [hvk]; simp [tagsC, Tg.enc, rfTg, List.flatMap_append]
      refine ⟨k + 1, [_, _, _, _], Part.skip (Part.refl _), ⟨A39, c39, xs ++ [rfTg i l[k]!], Has.mk (by repeat (first | refine Off.upd ?_ rfl | exact Off.mix | refine Off.mix2 ?_ rfl | exact Off.refl)) (allLook_cons (by repeat (first | exact Look.here | apply Look.there (hne := rfl) | exact Look.const | apply Look.mix rfl | exact Look.arg0 | apply Look.args | exact Look.func)) (allLook_cons (by rw [List.length_append]; exact (by repeat (first | exact Look.here | apply Look.there (hne := rfl) | exact Look.const | apply Look.mix rfl | exact Look.arg0 | apply Look.args | exact Look.func))) allLook_nil)), by rw [hst], by omega, hxs⟩, by omega⟩
    · -- else_t23
      obtain rfl : k = l.length := by omega
      rw [List.take_length] at hx
      have hnr := nameF_range i hn0
      refine JC.exit ?_ -- 0
      refine JC.as mixed ?_
      refine Any.call 0 rfl (by kernel_rfl) (by kernel_rfl) (by kernel_rfl) rfl (fun w hw => refLetters) ?_
      refine Any.p 1 rfl (by kernel_rfl) (by kernel_rfl) (by kernel_rfl) rfl (Ev.ldBA ag.api_Input) ?_
      refine Any.call 2 rfl (by kernel_rfl) (by kernel_rfl) (by kernel_rfl) rfl (fun w hw => refName) ?_
      refine Any.p 3 rfl (by kernel_rfl) (by kernel_rfl) (by kernel_rfl) rfl (Ev.indexS (v := .string kd) ar.a5_string sc.string (hv := by rw [hkd]; exact letters_at hnr)) ?_
      refine Any.p 4 rfl (by kernel_rfl) (by kernel_rfl) (by kernel_rfl) rfl Ev.move ?_
      refine Any.one 5 rfl (by kernel_rfl) ?_
      refine Seq.call rfl (fun w' hw => by have h := refEncode (w := w') (kind := kd) (xs := xs) (RAt.up (RAt.own (enc := Tg.enc) (xs := xs) (hs := by rw [hx, List.length_map]; omega)) hw) (by omega) (by rw [hx]; exact htz) (by rw [hx]; exact hbd); rw [hx, ← hec] at h; rw [hx]; exact h) (F := _) (by exact List.Perm.refl _) ?_
      rintro _ _ ⟨A45, c45, rfl, rfl⟩
      simp only [List.cons_append, List.nil_append]
      refine Seq.nil ⟨(by repeat (first | exact Part.refl _ | exact Part.nil _ | apply Part.here | apply Part.skip)), ?_⟩
      refine Any.p 6 rfl (by kernel_rfl) (by kernel_rfl) (by kernel_rfl) rfl Ev.extract ?_
      refine Any.p 7 rfl (by kernel_rfl) (by kernel_rfl) (by kernel_rfl) rfl Ev.extract ?_
      refine Any.p 8 rfl (by kernel_rfl) (by kernel_rfl) (by kernel_rfl) rfl Ev.assign ?_
      refine Any.p 9 rfl (by kernel_rfl) (by kernel_rfl) (by kernel_rfl) rfl Ev.assign ?_
      refine Any.done (by kernel_rfl) ?_
      refine JC.ret ?_
      -- return 0
      show retQ _ _ _ _ _ _ _ _
      refine ret2 (H' := [bytesC (.slice A45 ec.2.length c45) ec.2]) (hp := (by repeat (first | exact Part.nil _ | refine Part.at (by repeat (first | exact At.z | apply At.s)) ?_))) (hpost := ?_)
      exact ⟨A45, c45, rfl, rfl⟩
theorem refLine {w : World} {i : Input} (hw0 : i.Wf) : Spec Go.Proofs.Tryz.prog 29 #[.agg i.enc.toArray] w [] (LinePost (lineF i)) := by
  by_cases hE : refE i = 0
  · exact refLine1 hw0 hE
  · exact refLine0 hw0 hE
end Go.Rx
