/- The document's fields of a body. -/
import Derived.Test.YtcggppjpnepoiaaDoorU1
namespace Go.Rx
open Go Go.RowKit Go.Lib Go.Proofs.YtcggppjpnepoiaaDoor
set_option linter.unusedVariables false
set_option linter.unusedSimpArgs false
abbrev ansC (bk : Nat) (kind : ByteArray) (tv : Value) (at_ why : Int) (whole : Bool) (size : Int) : Chunk := .box bk 79 [.string kind, tv, .int .i64 at_, .int .i64 why, .bool whole, .int .i64 size]
def ansV (a : ReadA) (A : Option Addr) (c : Nat) (whole : Bool) (size : Int) : Value := .agg #[.string a.kind, .slice A a.tags.length c, .int .i64 a.place, .int .i64 a.why, .bool whole, .int .i64 size]
/-- What 'parts' tells. -/
def partsA : PartA → ReadA
  | .bad p e => ⟨⟨#[]⟩, [], p, e, 0⟩
  | .ok kind xs => ⟨kind, xs, 0, 0, 0⟩
theorem ref_none {F : List Int} {k : Nat} {bk : Bool} {q : Nat} (hk : firstF 61 F = k) (hkk : natF (strOf (F.take k)) = if bk = true then some q else none)
    (h : k = F.length ∨ bk = false ∨ 4 < k) : fieldN F = none := by
  unfold fieldN
  have hle := firstF_le 61 F
  rw [hk]
  by_cases h1 : k < F.length ∧ k ≤ 4
  · rw [if_pos h1, hkk]
    cases bk with
    | false => rfl
    | true => simp at h; omega
  · rw [if_neg h1]
theorem ref_some {F : List Int} {k : Nat} {bk : Bool} {q : Nat} (hk : firstF 61 F = k) (hkk : natF (strOf (F.take k)) = if bk = true then some q else none)
    (h1 : k ≠ F.length) (hb : bk = true) (h2 : k ≤ 4) : fieldN F = some q ∧ q < 10000 := by
  subst hb
  have hle := firstF_le 61 F
  simp only [if_true] at hkk
  refine ⟨?_, ?_⟩
  · unfold fieldN
    rw [hk, if_pos ⟨by omega, by omega⟩, hkk]
  · have h3 := natF_lt hkk
    rw [strOf_size] at h3
    have h4 : (F.take k).length ≤ 4 := by rw [List.length_take]; omega
    exact Nat.lt_of_lt_of_le h3 (Nat.pow_le_pow_right (by decide) h4)
theorem fieldAt_len {l : List Int} {p : Nat} : (fieldAt l p).length = firstF 1 (l.drop p) := by
  have := firstF_le 1 (l.drop p)
  unfold fieldAt
  rw [List.length_take]
  omega
theorem takeF_none {F : List Int} {first : Bool} {kind : ByteArray} {xs : List Tg} (h : fieldN F = none) : takeF F first kind xs = (3, kind, xs) := by
  unfold takeF
  rw [h]
theorem takeF_first {F : List Int} {kind : ByteArray} {xs : List Tg} {n : Nat} (h : fieldN F = some n) : takeF F true kind xs = if n ≠ 35 ∨ kindB (fieldV F) = false then (3, kind, xs) else (0, fieldV F, xs) := by
  unfold takeF
  rw [h]
  rfl
theorem takeF_next {F : List Int} {kind : ByteArray} {xs : List Tg} {n : Nat} (h : fieldN F = some n) : takeF F false kind xs = if xs.length = 64 then (2, kind, xs)
    else if refusedF xs ⟨n, fieldV F⟩ ≠ 0 then (refusedF xs ⟨n, fieldV F⟩, kind, xs) else (0, kind, xs ++ [⟨n, fieldV F⟩]) := by
  unfold takeF
  rw [h]
  rfl
abbrev nilC : Chunk := .own 30 2 (.slice none 0 0) 0 []
set_option maxHeartbeats 4000000 in
set_option maxRecDepth 100000 in
theorem refParts {w : World} {v : Value} {l : List Int} {f to : Nat} (hr : RSl byteEnc 1 w [] v l) (hB : isBytes l) (hl : l.length ≤ 281474976710656) (hf : f ≤ to) (ht : to ≤ l.length) (h1 : l[to - 1]! = 1) :
    Spec Go.Proofs.Tryd.prog 55 #[v, .int .i64 (f : Int), .int .i64 (to : Int)] w [] (fun u H' => ∃ A c, u = ansV (partsA (partsF l f to f ⟨#[]⟩ [])) A c false 0 ∧ H' = [tagsC (.slice A (partsA (partsF l f to f ⟨#[]⟩ [])).tags.length c) (partsA (partsF l f to f ⟨#[]⟩ [])).tags]) := by
  refine Spec.enter (fn := Go.Proofs.Tryd.f55) (n := 122) [v, .int .i64 (f : Int), .int .i64 (to : Int)] Go.Proofs.Tryd.func55 (by kernel_rfl) rfl Go.Proofs.Tryd.ntmps55 Go.Proofs.Tryd.results55 rfl (Own.nil _) ?_
  refine JC.re (fun w h => (h.nilOwn 30 2).nilOwn 30 2) ?_
  refine JC.rs ?_
  refine Seq.alloc (cs := [_, _, _, _, _, _]) (hz := z.bourseref03_Answer) (k := ?_); intro b6
  refine Seq.nil ?_
  refine JC.rs ?_
  refine Seq.p rfl (Ev.buildN [_, _, _, _, _, _] pl.bourseref03_Answer z.bourseref03_Answer) ?_
  refine Seq.alloc (cs := [_, _, _, _, _, _]) (hz := z.bourseref03_Answer) (k := ?_); intro b7
  refine Seq.storeN [_, _, _, _, _, _] sz.bourseref03_Answer (k := ?_)
  refine Seq.nil ?_
  refine JC.seq ?_
  refine JC.rs ?_
  refine Seq.p rfl Ev.move ?_
  refine Seq.p rfl Ev.assign ?_
  refine Seq.nil ?_
  refine JC.blk ?_
  refine JC.loop (α := Nat) (I := fun p e1 H1 => ∃ kind A c xs, Has [8, 9, 10, 11, 12, 13, 16, 17, 18, 19, 20, 21, 22, 23, 24, 25, 26, 27, 28, 29, 30, 31, 32, 33, 34, 35, 36, 37, 38, 39, 40, 41, 42, 43, 44, 45, 46, 47, 48, 49, 50, 51, 52, 53, 54, 55, 56, 57, 58, 59, 60, 61, 62, 63, 64, 65, 66, 67, 68, 69, 70, 71, 72, 73, 74, 75, 76, 77, 78, 79, 80, 81, 82, 83, 84, 85, 86, 87, 88, 89, 90, 91, 92, 93, 94, 95, 96, 97, 98, 99, 100, 101, 102, 103, 104, 105, 106, 107, 108, 109, 110, 111, 112, 113, 114, 115, 116, 117, 118, 119, 120] [(8, .int .i64 (p : Int))] _ e1 ∧ H1 = [ansC b7 kind (.slice A xs.length c) 0 0 false 0, ansC b6 ⟨#[]⟩ (.slice none 0 0) 0 0 false 0, tagsC (.slice A xs.length c) xs, nilC] ∧ f ≤ p ∧ p ≤ to ∧ xs.length ≤ 64 ∧ partsF l f to p kind xs = partsF l f to f ⟨#[]⟩ []) (μ := fun p => to - p) f ⟨⟨#[]⟩, none, 0, [], Has.mk Off.refl (allLook_cons (by repeat (first | exact Look.here | apply Look.there (hne := rfl) | exact Look.const | apply Look.mix rfl | exact Look.arg0 | apply Look.args | exact Look.func)) allLook_nil), rfl, by omega, by omega, by simp, rfl⟩ ?_
  rintro p _ _ ⟨kind, A, c, xs, ⟨u, rfl⟩, rfl, hfp, hpt, hx, hq⟩; dsimp only [setL]
  refine JC.seq ?_
  refine JC.rs ?_
  refine Seq.p rfl Ev.move ?_
  refine Seq.p rfl Ev.move ?_
  refine Seq.p rfl Ev.lt ?_
  refine Seq.nil ?_
  first | refine JC.c (ht := fun c18 => ?_) (hf := fun c18 => ?_) | refine JC.cb (ht := fun c18 => ?_) (hf := fun c18 => ?_)
  · -- then_t18
    have hp : p < to := by omega
    have hin := first_in hp ht h1
    have hlen : (l.drop p).length = l.length - p := List.length_drop ..
    refine JC.skip ?_
    refine JC.blk ?_
    refine JC.rs ?_
    refine Seq.p rfl Ev.move ?_
    refine Seq.p rfl Ev.assign ?_
    refine Seq.nil ?_
    refine JC.seq ?_
    refine JC.blk ?_
    refine JC.loop (α := Nat) (I := fun n e1 H1 => Has [9, 20, 21, 22, 23, 24, 25, 26] [(9, .int .i64 ((p + n : Nat) : Int))] _ e1 ∧ H1 = _ ∧ n ≤ firstF 1 (l.drop p)) (μ := fun n => firstF 1 (l.drop p) - n) 0 ⟨Has.mk Off.refl (allLook_cons (by repeat (first | exact Look.here | apply Look.there (hne := rfl) | exact Look.const | apply Look.mix rfl | exact Look.arg0 | apply Look.args | exact Look.func)) allLook_nil), rfl, by omega⟩ ?_
    rintro n _ _ ⟨⟨u2, rfl⟩, rfl, hn⟩; dsimp only [setL]
    refine JC.seq ?_
    refine JC.rs ?_
    refine Seq.p rfl Ev.move ?_
    refine Seq.p rfl Ev.move ?_
    refine Seq.p rfl (Ev.iaN sl.sl_uint8 (hr := hr.r)) ?_
    refine Seq.p rfl (Ev.ldE1 sc.uint8 (hr := hr.r)) ?_
    refine Seq.p rfl Ev.ne ?_
    refine Seq.nil ?_
    first | refine JC.c (ht := fun c24 => ?_) (hf := fun c24 => ?_) | refine JC.cb (ht := fun c24 => ?_) (hf := fun c24 => ?_)
    · -- then_t24
      refine JC.skip ?_
      refine JC.blk ?_
      refine JC.reg ?_
      refine Seq.p rfl Ev.move ?_
      refine Seq.p rfl (by first | exact Ev.inc | exact Ev.add) ?_
      refine Seq.p rfl Ev.assign ?_
      refine Seq.nil ?_
      have hn2 : n ≠ firstF 1 (l.drop p) := fun h => c24 (by rw [h, ← get_drop (by omega)]; exact firstF_get (by omega))
      exact ⟨n + 1, _, Part.refl _, ⟨Has.mk (by repeat (first | refine Off.upd ?_ rfl | exact Off.mix | refine Off.mix2 ?_ rfl | exact Off.refl)) (allLook_cons (by repeat (first | exact Look.here | apply Look.there (hne := rfl) | exact Look.const | apply Look.mix rfl | exact Look.arg0 | apply Look.args | exact Look.func)) allLook_nil), rfl, by omega⟩, by omega⟩
    · -- else_t24
      obtain rfl : n = firstF 1 (l.drop p) := by
        rcases Nat.lt_or_ge n (firstF 1 (l.drop p)) with h | h
        · exact absurd (by rw [← get_drop (by omega)] at c24; exact Classical.not_not.1 c24) (firstF_lt h)
        · omega
      have hFl := fieldAt_len (l := l) (p := p)
      have hkl := firstF_le 61 (fieldAt l p)
      refine JC.exit ?_ -- 2
      refine JC.rs ?_
      refine Seq.p rfl Ev.move ?_
      refine Seq.p rfl Ev.assign ?_
      refine Seq.nil ?_
      refine JC.seq ?_
      refine JC.blk ?_
      refine JC.loop (α := Nat) (I := fun k e1 H1 => Has [10, 28, 29, 30, 31, 32, 33, 34, 35, 36, 37, 38, 39] [(10, .int .i64 ((p + k : Nat) : Int))] _ e1 ∧ H1 = _ ∧ k ≤ firstF 61 (fieldAt l p)) (μ := fun k => firstF 61 (fieldAt l p) - k) 0 ⟨Has.mk Off.refl (allLook_cons (by repeat (first | exact Look.here | apply Look.there (hne := rfl) | exact Look.const | apply Look.mix rfl | exact Look.arg0 | apply Look.args | exact Look.func)) allLook_nil), rfl, by omega⟩ ?_
      rintro k _ _ ⟨⟨u3, rfl⟩, rfl, hk⟩; dsimp only [setL]
      have hget : k < firstF 1 (l.drop p) → (fieldAt l p)[k]! = l[p + k]! := fun h => by unfold fieldAt; rw [get_take h (by omega), get_drop (by omega)]
      refine JC.seq ?_
      refine JC.rs ?_
      refine Seq.p rfl Ev.move ?_
      refine Seq.p rfl Ev.move ?_
      refine Seq.p rfl Ev.lt ?_
      refine Seq.p rfl Ev.move ?_
      refine Seq.andG (D := [31, 32, 33, 34, 35, 36, 37]) (d := 31) (t := 37) (k := 6) (hn := fun h31 => ?_) (hx := ?_)
      · repeat (first | refine Seq.gn rfl rfl rfl rfl ?_ | refine Seq.gu rfl rfl rfl ?_)
        refine Seq.p rfl Ev.pickF ?_
        exact Seq.nil ⟨rfl, (by repeat (first | with_reducible exact Off.refl | refine Off.upd ?_ rfl | exact Off.mix | refine Off.mix2 ?_ rfl)), Look.here⟩
      apply Exists.intro
      refine ⟨fun h31 => ?_, fun u37 => ?_⟩
      · try simp only [decide_eq_true_eq, decide_eq_false_iff_not, Bool.and_eq_true, Bool.or_eq_true, Bool.not_eq_true', Bool.not_eq_false', Bool.or_eq_false_iff, Bool.and_eq_false_imp] at h31
        refine Seq.gy rfl rfl rfl ?_
        refine Seq.p rfl Ev.move ?_
        refine Seq.gy rfl rfl rfl ?_
        refine Seq.p rfl Ev.move ?_
        refine Seq.gy rfl rfl rfl ?_
        refine Seq.p rfl (Ev.iaN sl.sl_uint8 (hr := hr.r)) ?_
        refine Seq.gy rfl rfl rfl ?_
        refine Seq.p rfl (Ev.ldE1 sc.uint8 (hr := hr.r)) ?_
        refine Seq.gy rfl rfl rfl ?_
        refine Seq.p rfl Ev.ne ?_
        refine Seq.p rfl Ev.pickT ?_
        exact Seq.nil ⟨rfl, (by repeat (first | with_reducible exact Off.refl | refine Off.upd ?_ rfl | exact Off.mix | refine Off.mix2 ?_ rfl)), Look.here⟩
      refine Seq.nil ?_
      first | refine JC.c (ht := fun c37 => ?_) (hf := fun c37 => ?_) | refine JC.cb (ht := fun c37 => ?_) (hf := fun c37 => ?_)
      · -- then_t37
        refine JC.skip ?_
        refine JC.blk ?_
        refine JC.reg ?_
        refine Seq.p rfl Ev.move ?_
        refine Seq.p rfl (by first | exact Ev.inc | exact Ev.add) ?_
        refine Seq.p rfl Ev.assign ?_
        refine Seq.nil ?_
        simp only [Bool.and_eq_true, decide_eq_true_eq] at c37
        have hk2 : k ≠ firstF 61 (fieldAt l p) := fun h => c37.2 (by rw [← hget (by omega), h]; exact firstF_get (by omega))
        exact ⟨k + 1, _, Part.refl _, ⟨Has.mk (by repeat (first | refine Off.upd ?_ rfl | exact Off.mix | refine Off.mix2 ?_ rfl | exact Off.refl)) (allLook_cons (by repeat (first | exact Look.here | apply Look.there (hne := rfl) | exact Look.const | apply Look.mix rfl | exact Look.arg0 | apply Look.args | exact Look.func)) allLook_nil), rfl, by omega⟩, by omega⟩
      · -- else_t37
        have hk3 : firstF 61 (fieldAt l p) = k := by
          rcases Nat.lt_or_ge k (firstF 61 (fieldAt l p)) with h | h
          · simp only [Bool.and_eq_false_iff, decide_eq_false_iff_not] at c37
            rcases c37 with h2 | h2
            · omega
            · exact absurd (by rw [hget (by omega)]; exact Classical.not_not.1 h2) (firstF_lt h)
          · omega
        have hsub : RSl byteEnc 1 w [] (subSl v p (p + k) 1) ((fieldAt l p).take k) := by
          have h2 := hr.sub (lo := p) (hi := p + k) (by omega) (by omega)
          rw [show p + k - p = k by omega] at h2
          unfold fieldAt
          rwa [List.take_take, Nat.min_eq_left (by omega)]
        refine JC.exit ?_ -- 4
        refine JC.rs ?_
        refine Seq.p rfl Ev.move ?_
        refine Seq.p rfl Ev.move ?_
        refine Seq.p rfl Ev.move ?_
        refine Seq.p rfl (Ev.cut sl.sl_uint8 (hr := hr.r) (l := p) (h := p + k) (hlo := ⟨_, (by repeat (first | exact Look.here | apply Look.there (hne := rfl) | exact Look.const | apply Look.mix rfl | exact Look.arg0 | apply Look.args | exact Look.func))⟩) (hhi := ⟨_, (by repeat (first | exact Look.here | apply Look.there (hne := rfl) | exact Look.const | apply Look.mix rfl | exact Look.arg0 | apply Look.args | exact Look.func))⟩)) ?_
        refine Seq.p rfl (Ev.strOf (l := (fieldAt l p).take k) sl.sl_uint8 it.uint8 st.string (hr := hsub.r)) ?_
        obtain ⟨q, bk, hq1, hq2⟩ := natV_form (natF (strOf ((fieldAt l p).take k)))
        refine Seq.callP rfl (fun w hw => hq1 ▸ refNatural) ?_
        refine Seq.p rfl Ev.move ?_
        refine Seq.p rfl Ev.extract ?_
        refine Seq.p rfl Ev.extract ?_
        refine Seq.p rfl Ev.assign ?_
        refine Seq.p rfl Ev.assign ?_
        refine Seq.nil ?_
        refine JC.rs ?_
        refine Seq.p rfl Ev.move ?_
        refine Seq.p rfl Ev.move ?_
        refine Seq.p rfl (Ev.addN (m := p + k) (c := 1)) ?_
        refine Seq.p rfl Ev.move ?_
        refine Seq.p rfl (Ev.minN (ts := [3, 3]) (a := p + k + 1) (b := p + firstF 1 (l.drop p))) ?_
        refine Seq.p rfl Ev.move ?_
        obtain ⟨m, hm2⟩ : ∃ m : Nat, m = min (p + k + 1) (p + firstF 1 (l.drop p)) := ⟨_, rfl⟩
        rw [← hm2]
        have hsub2 : RSl byteEnc 1 w [] (subSl v m (p + firstF 1 (l.drop p)) 1) ((fieldAt l p).drop (k + 1)) := by
          have h2 := hr.sub (lo := m) (hi := p + firstF 1 (l.drop p)) (by omega) (by omega)
          have e : (fieldAt l p).drop (k + 1) = (l.drop m).take (p + firstF 1 (l.drop p) - m) := by
            unfold fieldAt
            rw [List.drop_take, List.drop_drop]
            rcases Nat.lt_or_ge k (firstF 1 (l.drop p)) with h | h
            · rw [show m = p + (k + 1) by omega]
              congr 1
              omega
            · rw [show firstF 1 (l.drop p) - (k + 1) = 0 by omega, show p + firstF 1 (l.drop p) - m = 0 by omega]
              rfl
          rwa [e]
        refine Seq.p rfl (Ev.cut sl.sl_uint8 (hr := hr.r) (l := m) (h := p + firstF 1 (l.drop p)) (hlo := ⟨_, (by repeat (first | exact Look.here | apply Look.there (hne := rfl) | exact Look.const | apply Look.mix rfl | exact Look.arg0 | apply Look.args | exact Look.func))⟩) (hhi := ⟨_, (by repeat (first | exact Look.here | apply Look.there (hne := rfl) | exact Look.const | apply Look.mix rfl | exact Look.arg0 | apply Look.args | exact Look.func))⟩)) ?_
        refine Seq.p rfl (Ev.strOf (l := (fieldAt l p).drop (k + 1)) sl.sl_uint8 it.uint8 st.string (hr := hsub2.r)) ?_
        refine Seq.p rfl Ev.assign ?_
        refine Seq.nil ?_
        refine JC.seq ?_
        refine JC.rs ?_
        refine Seq.p rfl Ev.move ?_
        refine Seq.p rfl Ev.move ?_
        refine Seq.p rfl Ev.eq ?_
        refine Seq.p rfl Ev.move ?_
        refine Seq.orG (D := [60, 61, 62, 63]) (d := 60) (t := 63) (k := 3) (hn := fun h60 => ?_) (hx := ?_)
        · repeat (first | refine Seq.gn rfl rfl rfl rfl ?_ | refine Seq.gu rfl rfl rfl ?_)
          refine Seq.p rfl Ev.pickT ?_
          exact Seq.nil ⟨rfl, (by repeat (first | with_reducible exact Off.refl | refine Off.upd ?_ rfl | exact Off.mix | refine Off.mix2 ?_ rfl)), Look.here⟩
        apply Exists.intro
        refine ⟨fun h60 => ?_, fun u63 => ?_⟩
        · try simp only [decide_eq_true_eq, decide_eq_false_iff_not, Bool.and_eq_true, Bool.or_eq_true, Bool.not_eq_true', Bool.not_eq_false', Bool.or_eq_false_iff, Bool.and_eq_false_imp] at h60
          refine Seq.gy rfl rfl rfl ?_
          refine Seq.p rfl Ev.move ?_
          refine Seq.gy rfl rfl rfl ?_
          refine Seq.p rfl Ev.not ?_
          refine Seq.p rfl Ev.pickF ?_
          exact Seq.nil ⟨rfl, (by repeat (first | with_reducible exact Off.refl | refine Off.upd ?_ rfl | exact Off.mix | refine Off.mix2 ?_ rfl)), Look.here⟩
        refine Seq.p rfl Ev.move ?_
        refine Seq.orG (D := [64, 65, 66, 67, 68, 69]) (d := 64) (t := 69) (k := 5) (hn := fun h64 => ?_) (hx := ?_)
        · repeat (first | refine Seq.gn rfl rfl rfl rfl ?_ | refine Seq.gu rfl rfl rfl ?_)
          refine Seq.p rfl Ev.pickT ?_
          exact Seq.nil ⟨rfl, (by repeat (first | with_reducible exact Off.refl | refine Off.upd ?_ rfl | exact Off.mix | refine Off.mix2 ?_ rfl)), Look.here⟩
        apply Exists.intro
        refine ⟨fun h64 => ?_, fun u69 => ?_⟩
        · try simp only [decide_eq_true_eq, decide_eq_false_iff_not, Bool.and_eq_true, Bool.or_eq_true, Bool.not_eq_true', Bool.not_eq_false', Bool.or_eq_false_iff, Bool.and_eq_false_imp] at h64
          refine Seq.gy rfl rfl rfl ?_
          refine Seq.p rfl Ev.move ?_
          refine Seq.gy rfl rfl rfl ?_
          refine Seq.p rfl Ev.move ?_
          refine Seq.gy rfl rfl rfl ?_
          refine Seq.p rfl Ev.sub ?_
          refine Seq.gy rfl rfl rfl ?_
          refine Seq.p rfl Ev.gt ?_
          refine Seq.p rfl Ev.pickF ?_
          exact Seq.nil ⟨rfl, (by repeat (first | with_reducible exact Off.refl | refine Off.upd ?_ rfl | exact Off.mix | refine Off.mix2 ?_ rfl)), Look.here⟩
        refine Seq.nil ?_
        first | refine JC.c (ht := fun c69 => ?_) (hf := fun c69 => ?_) | refine JC.cb (ht := fun c69 => ?_) (hf := fun c69 => ?_)
        · -- then_t69
          simp only [Bool.or_eq_true, Bool.not_eq_true', decide_eq_true_eq] at c69
          have hN := ref_none hk3 hq2 (by rcases c69 with (h | h) | h; exact .inl (by omega); exact .inr (.inl h); exact .inr (.inr (by omega)))
          refine JC.rs ?_
          refine Seq.p rfl Ev.move ?_
          refine Seq.callP rfl (fun w hw => refBad) ?_
          refine Seq.storeN [_, _, _, _, _, _] sz.bourseref03_Answer (k := ?_)
          refine Seq.nil ?_
          refine JC.ret ?_
          -- return 0
          show retQ _ _ _ _ _ _ _ _
          refine retB1 ag.bourseref03_Answer (H' := [nilC]) (hp := (by repeat (first | exact Part.refl _ | exact Part.nil _ | apply Part.here | apply Part.skip))) (hpost := ?_)
          rw [← hq, partsF_bad hp (takeF_none hN) (by decide)]
          exact ⟨none, 0, rfl, rfl⟩
        · -- else_t69
          simp only [Bool.or_eq_false_iff, Bool.not_eq_false', decide_eq_false_iff_not] at c69
          obtain ⟨⟨a1, a2⟩, a3⟩ := c69
          obtain ⟨hN, hq4⟩ := ref_some hk3 hq2 (by omega) a2 (by omega)
          have hv : fieldV (fieldAt l p) = strOf ((fieldAt l p).drop (k + 1)) := by unfold fieldV; rw [hk3]
          have hvz : (strOf ((fieldAt l p).drop (k + 1))).size ≤ 281474976710656 := by rw [strOf_size, List.length_drop]; omega
          refine JC.skip ?_
          refine JC.seq ?_
          refine JC.rs ?_
          refine Seq.p rfl Ev.move ?_
          refine Seq.p rfl Ev.move ?_
          refine Seq.p rfl Ev.eq ?_
          refine Seq.nil ?_
          first | refine JC.c (ht := fun c74 => ?_) (hf := fun c74 => ?_) | refine JC.cb (ht := fun c74 => ?_) (hf := fun c74 => ?_)
          · -- then_t74
            have hpf : p = f := by omega
            have ht1 := takeF_first (kind := kind) (xs := xs) hN
            rw [← decide_eq_true hpf, hv] at ht1
            refine JC.seq ?_
            refine JC.rs ?_
            refine Seq.p rfl Ev.move ?_
            refine Seq.p rfl Ev.ne ?_
            refine Seq.p rfl Ev.move ?_
            refine Seq.orG (D := [77, 78, 79, 80, 81]) (d := 77) (t := 81) (k := 4) (hn := fun h77 => ?_) (hx := ?_)
            · repeat (first | refine Seq.gn rfl rfl rfl rfl ?_ | refine Seq.gu rfl rfl rfl ?_)
              refine Seq.p rfl Ev.pickT ?_
              exact Seq.nil ⟨rfl, (by repeat (first | with_reducible exact Off.refl | refine Off.upd ?_ rfl | exact Off.mix | refine Off.mix2 ?_ rfl)), Look.here⟩
            apply Exists.intro
            refine ⟨fun h77 => ?_, fun u81 => ?_⟩
            · try simp only [decide_eq_true_eq, decide_eq_false_iff_not, Bool.and_eq_true, Bool.or_eq_true, Bool.not_eq_true', Bool.not_eq_false', Bool.or_eq_false_iff, Bool.and_eq_false_imp] at h77
              refine Seq.gy rfl rfl rfl ?_
              refine Seq.p rfl Ev.move ?_
              refine Seq.gy rfl rfl rfl ?_
              refine Seq.callP rfl (fun w hw => refKind hvz) ?_
              refine Seq.gy rfl rfl rfl ?_
              refine Seq.p rfl Ev.not ?_
              refine Seq.p rfl Ev.pickF ?_
              exact Seq.nil ⟨rfl, (by repeat (first | with_reducible exact Off.refl | refine Off.upd ?_ rfl | exact Off.mix | refine Off.mix2 ?_ rfl)), Look.here⟩
            refine Seq.nil ?_
            first | refine JC.c (ht := fun c81 => ?_) (hf := fun c81 => ?_) | refine JC.cb (ht := fun c81 => ?_) (hf := fun c81 => ?_)
            · -- then_t81
              refine JC.rs ?_
              refine Seq.p rfl Ev.move ?_
              refine Seq.callP rfl (fun w hw => refBad) ?_
              refine Seq.storeN [_, _, _, _, _, _] sz.bourseref03_Answer (k := ?_)
              refine Seq.nil ?_
              refine JC.ret ?_
              -- return 1
              show retQ _ _ _ _ _ _ _ _
              refine retB1 ag.bourseref03_Answer (H' := [nilC]) (hp := (by repeat (first | exact Part.refl _ | exact Part.nil _ | apply Part.here | apply Part.skip))) (hpost := ?_)
              rw [← hq, partsF_bad hp (ht1.trans (if_pos (by simp only [Bool.or_eq_true, Bool.not_eq_true', decide_eq_true_eq] at c81; rcases c81 with h | h; exact .inl (by omega); exact .inr h))) (by decide)]
              exact ⟨none, 0, rfl, rfl⟩
            · -- else_t81
              simp only [Bool.or_eq_false_iff, Bool.not_eq_false', decide_eq_false_iff_not] at c81
              rw [partsF_step hp (ht1.trans (if_neg (by rintro (h | h); exact c81.1 (by omega); rw [c81.2] at h; cases h)))] at hq
              refine JC.skip ?_
              refine JC.reg ?_
              refine Seq.p rfl Ev.move ?_
              refine Seq.p rfl (Ev.faB fd.bourseref03_Answer_0) ?_
              refine Seq.storeN [_, _, _, _, _, _] sz.string (k := ?_)
              refine Seq.nil ?_
              refine JC.reg ?_
              refine Seq.p rfl Ev.move ?_
              refine Seq.p rfl (by first | exact Ev.inc | exact Ev.add) ?_
              refine Seq.p rfl Ev.assign ?_
              refine Seq.nil ?_
              first | exact ⟨p + firstF 1 (l.drop p) + 1, _, Part.refl _, ⟨strOf ((fieldAt l p).drop (k + 1)), A, c, xs, Has.mk (by repeat (first | refine Off.upd ?_ rfl | exact Off.mix | refine Off.mix2 ?_ rfl | exact Off.refl)) (allLook_cons (by repeat (first | exact Look.here | apply Look.there (hne := rfl) | exact Look.const | apply Look.mix rfl | exact Look.arg0 | apply Look.args | exact Look.func)) allLook_nil), rfl, by omega, by omega, hx, hq⟩, by omega⟩ | exact ⟨p + firstF 1 (l.drop p) + 1, _, Part.skip (Part.refl _), ⟨kind, A117, c117, xs ++ [⟨q, strOf ((fieldAt l p).drop (k + 1))⟩], Has.mk (by repeat (first | refine Off.upd ?_ rfl | exact Off.mix | refine Off.mix2 ?_ rfl | exact Off.refl)) (allLook_cons (by repeat (first | exact Look.here | apply Look.there (hne := rfl) | exact Look.const | apply Look.mix rfl | exact Look.arg0 | apply Look.args | exact Look.func)) allLook_nil), by simp [tagsC, Tg.enc, List.flatMap_append], by omega, by omega, by simp; omega, hq⟩, by omega⟩
          · -- else_t74
            have hpf : ¬ p = f := by omega
            have ht1 := takeF_next (kind := kind) (xs := xs) hN
            rw [← decide_eq_false hpf, hv] at ht1
            refine JC.seq ?_
            refine JC.rs ?_
            refine Seq.p rfl (Ev.faB fd.bourseref03_Answer_1) ?_
            refine Seq.p rfl (Ev.ldB sc.sl_api_Tag) ?_
            refine Seq.p rfl (Ev.lenSl sl.sl_api_Tag (hr := RAt.own (enc := Tg.enc) (xs := xs))) ?_
            refine Seq.p rfl Ev.ge ?_
            refine Seq.nil ?_
            first | refine JC.c (ht := fun c89 => ?_) (hf := fun c89 => ?_) | refine JC.cb (ht := fun c89 => ?_) (hf := fun c89 => ?_)
            · -- then_t89
              refine JC.rs ?_
              refine Seq.p rfl Ev.move ?_
              refine Seq.callP rfl (fun w hw => refBad) ?_
              refine Seq.storeN [_, _, _, _, _, _] sz.bourseref03_Answer (k := ?_)
              refine Seq.nil ?_
              refine JC.ret ?_
              -- return 2
              show retQ _ _ _ _ _ _ _ _
              refine retB1 ag.bourseref03_Answer (H' := [nilC]) (hp := (by repeat (first | exact Part.refl _ | exact Part.nil _ | apply Part.here | apply Part.skip))) (hpost := ?_)
              rw [← hq, partsF_bad hp (ht1.trans (if_pos (by omega))) (by decide)]
              exact ⟨none, 0, rfl, rfl⟩
            · -- else_t89
              rw [if_neg (by omega)] at ht1
              refine JC.skip ?_
              refine JC.seq ?_
              refine JC.rs ?_
              refine Seq.p rfl Ev.move ?_
              refine Seq.p rfl (Ev.conv64 it.uint64 it.int) ?_
              refine Seq.callP rfl (fun w hw => refIsTag) ?_
              refine Seq.p rfl Ev.not ?_
              refine Seq.p rfl Ev.move ?_
              refine Seq.orG (D := [96, 97, 98, 99, 100, 101, 102]) (d := 96) (t := 102) (k := 6) (hn := fun h96 => ?_) (hx := ?_)
              · repeat (first | refine Seq.gn rfl rfl rfl rfl ?_ | refine Seq.gu rfl rfl rfl ?_)
                refine Seq.p rfl Ev.pickT ?_
                exact Seq.nil ⟨rfl, (by repeat (first | with_reducible exact Off.refl | refine Off.upd ?_ rfl | exact Off.mix | refine Off.mix2 ?_ rfl)), Look.here⟩
              apply Exists.intro
              refine ⟨fun h96 => ?_, fun u102 => ?_⟩
              · try simp only [decide_eq_true_eq, decide_eq_false_iff_not, Bool.and_eq_true, Bool.or_eq_true, Bool.not_eq_true', Bool.not_eq_false', Bool.or_eq_false_iff, Bool.and_eq_false_imp] at h96
                refine Seq.gy rfl rfl rfl ?_
                refine Seq.p rfl (Ev.faB fd.bourseref03_Answer_1) ?_
                refine Seq.gy rfl rfl rfl ?_
                refine Seq.p rfl (Ev.ldB sc.sl_api_Tag) ?_
                refine Seq.gy rfl rfl rfl ?_
                refine Seq.p rfl Ev.move ?_
                refine Seq.gy rfl rfl rfl ?_
                refine Seq.p rfl (Ev.conv64 it.uint64 it.int) ?_
                refine Seq.gy rfl rfl rfl ?_
                refine Seq.callP rfl (fun w hw => refThere (RAt.up (RAt.own (enc := Tg.enc) (xs := xs)) hw)) ?_
                refine Seq.p rfl Ev.pickF ?_
                exact Seq.nil ⟨rfl, (by repeat (first | with_reducible exact Off.refl | refine Off.upd ?_ rfl | exact Off.mix | refine Off.mix2 ?_ rfl)), Look.here⟩
              refine Seq.nil ?_
              first | refine JC.c (ht := fun c102 => ?_) (hf := fun c102 => ?_) | refine JC.cb (ht := fun c102 => ?_) (hf := fun c102 => ?_)
              · -- then_t102
                refine JC.rs ?_
                refine Seq.p rfl Ev.move ?_
                refine Seq.callP rfl (fun w hw => refBad) ?_
                refine Seq.storeN [_, _, _, _, _, _] sz.bourseref03_Answer (k := ?_)
                refine Seq.nil ?_
                refine JC.ret ?_
                -- return 3
                show retQ _ _ _ _ _ _ _ _
                refine retB1 ag.bourseref03_Answer (H' := [nilC]) (hp := (by repeat (first | exact Part.refl _ | exact Part.nil _ | apply Part.here | apply Part.skip))) (hpost := ?_)
                have e3 : refusedF xs ⟨q, strOf ((fieldAt l p).drop (k + 1))⟩ = 30 := if_pos c102
                rw [← hq, partsF_bad hp (ht1.trans (if_pos (by rw [e3]; decide))) (by rw [e3]; decide), e3]
                exact ⟨none, 0, rfl, rfl⟩
              · -- else_t102
                refine JC.skip ?_
                refine JC.seq ?_
                refine JC.rs ?_
                refine Seq.p rfl Ev.move ?_
                refine Seq.callP rfl (fun w hw => refIsValue hvz) ?_
                refine Seq.p rfl Ev.not ?_
                refine Seq.nil ?_
                first | refine JC.c (ht := fun c107 => ?_) (hf := fun c107 => ?_) | refine JC.cb (ht := fun c107 => ?_) (hf := fun c107 => ?_)
                · -- then_t107
                  refine JC.rs ?_
                  refine Seq.p rfl Ev.move ?_
                  refine Seq.callP rfl (fun w hw => refBad) ?_
                  refine Seq.storeN [_, _, _, _, _, _] sz.bourseref03_Answer (k := ?_)
                  refine Seq.nil ?_
                  refine JC.ret ?_
                  -- return 4
                  show retQ _ _ _ _ _ _ _ _
                  refine retB1 ag.bourseref03_Answer (H' := [nilC]) (hp := (by repeat (first | exact Part.refl _ | exact Part.nil _ | apply Part.here | apply Part.skip))) (hpost := ?_)
                  have e3 : refusedF xs ⟨q, strOf ((fieldAt l p).drop (k + 1))⟩ = 31 := by unfold refusedF; rw [if_neg (by simp only at c102 ⊢; rw [c102]; decide), if_pos c107]
                  rw [← hq, partsF_bad hp (ht1.trans (if_pos (by rw [e3]; decide))) (by rw [e3]; decide), e3]
                  exact ⟨none, 0, rfl, rfl⟩
                · -- else_t107
                  have e3 : refusedF xs ⟨q, strOf ((fieldAt l p).drop (k + 1))⟩ = 0 := by unfold refusedF; rw [if_neg (by simp only at c102 ⊢; rw [c102]; decide), if_neg (by rw [c107]; decide)]
                  rw [e3, if_neg (fun h => h rfl)] at ht1
                  rw [partsF_step hp ht1] at hq
                  refine JC.skip ?_
                  refine JC.reg ?_
                  refine Seq.p rfl (Ev.faB fd.bourseref03_Answer_1) ?_
                  refine Seq.p rfl (Ev.ldB sc.sl_api_Tag) ?_
                  refine Seq.p rfl Ev.move ?_
                  refine Seq.p rfl (Ev.conv64 it.uint64 it.int) ?_
                  refine Seq.p rfl Ev.move ?_
                  refine Seq.p rfl (Ev.buildN [_, _] pl.api_Tag z.api_Tag) ?_
                  refine Seq.buildSlN [_, _] (hsl := sl.sl_api_Tag) (hz := z.api_Tag) (k := ?_); intro b116
                  refine Seq.append (hsl := sl.sl_api_Tag) (he := el.api_Tag) (hsrc := (fun w' hw => Src.box (hl := by rfl) (hc := fun q u hu => hu) sl.sl_api_Tag At.z hw)) (k := ?_); intro A117 c117
                  refine Seq.p rfl (Ev.faB fd.bourseref03_Answer_1) ?_
                  refine Seq.storeN [_, _, _, _, _, _] sz.sl_api_Tag (k := ?_)
                  refine Seq.nil ?_
                  refine JC.reg ?_
                  refine Seq.p rfl Ev.move ?_
                  refine Seq.p rfl (by first | exact Ev.inc | exact Ev.add) ?_
                  refine Seq.p rfl Ev.assign ?_
                  refine Seq.nil ?_
                  first | exact ⟨p + firstF 1 (l.drop p) + 1, _, Part.refl _, ⟨strOf ((fieldAt l p).drop (k + 1)), A, c, xs, Has.mk (by repeat (first | refine Off.upd ?_ rfl | exact Off.mix | refine Off.mix2 ?_ rfl | exact Off.refl)) (allLook_cons (by repeat (first | exact Look.here | apply Look.there (hne := rfl) | exact Look.const | apply Look.mix rfl | exact Look.arg0 | apply Look.args | exact Look.func)) allLook_nil), rfl, by omega, by omega, hx, hq⟩, by omega⟩ | exact ⟨p + firstF 1 (l.drop p) + 1, _, Part.skip (Part.refl _), ⟨kind, A117, c117, xs ++ [⟨q, strOf ((fieldAt l p).drop (k + 1))⟩], Has.mk (by repeat (first | refine Off.upd ?_ rfl | exact Off.mix | refine Off.mix2 ?_ rfl | exact Off.refl)) (allLook_cons (by repeat (first | exact Look.here | apply Look.there (hne := rfl) | exact Look.const | apply Look.mix rfl | exact Look.arg0 | apply Look.args | exact Look.func)) allLook_nil), by simp [tagsC, Tg.enc, List.flatMap_append], by omega, by omega, by simp; omega, hq⟩, by omega⟩
  · -- else_t18
    rw [partsF_end (by omega)] at hq
    refine JC.exit ?_ -- 0
    refine JC.rs ?_
    refine Seq.p rfl (Ev.ldBA ag.bourseref03_Answer) ?_
    refine Seq.storeN [_, _, _, _, _, _] sz.bourseref03_Answer (k := ?_)
    refine Seq.nil ?_
    refine JC.ret ?_
    -- return 5
    show retQ _ _ _ _ _ _ _ _
    refine retB1 ag.bourseref03_Answer (H' := [tagsC (.slice A xs.length c) xs]) (hp := (by repeat (first | exact Part.refl _ | exact Part.nil _ | apply Part.here | apply Part.skip))) (hpost := ?_)
    rw [← hq]
    exact ⟨A, c, rfl, rfl⟩
end Go.Rx
