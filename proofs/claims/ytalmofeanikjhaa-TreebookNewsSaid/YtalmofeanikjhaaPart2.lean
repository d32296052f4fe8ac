/- Parts of the proof. -/
import Derived.Test.YtalmofeanikjhaaPart1
import Derived.Test.YtalmofeanikjhaaRxL2
set_option linter.unusedVariables false
set_option linter.unusedSimpArgs false
/- The document's book: levels. -/
namespace Go.Rx
open Go Go.RowKit
set_option linter.unusedVariables false
set_option linter.unusedSimpArgs false
def depthS (most : Int) : List Lvl → List Rst → List Lvl
  | r, [] => r
  | r, o :: l =>
    if 0 < r.length ∧ r[r.length - 1]!.price = o.price then
      depthS most (r.set (r.length - 1) ⟨r[r.length - 1]!.price, (r[r.length - 1]!.qty + o.vis) % 18446744073709551616, r[r.length - 1]!.count + 1⟩) l
    else if (r.length : Int) < most then depthS most (r ++ [⟨o.price, o.vis, 1⟩]) l
    else r
def depthF (b : Bk) (s most : Int) : List Lvl := depthS most [] (sideF b s)
theorem set_get! {α : Type} [Inhabited α] {r : List α} {i : Nat} {y : α} (h : i < r.length) : (r.set i y)[i]! = y := by
  rw [getElem!_pos _ _ (by rw [List.length_set]; exact h)]
  exact List.getElem_set_self _
theorem depth_len (most : Int) : ∀ (l : List Rst) (r : List Lvl), (depthS most r l).length ≤ r.length + l.length
  | [], r => Nat.le_refl _
  | o :: l, r => by
    unfold depthS
    split
    · refine Nat.le_trans (depth_len most l _) ?_
      rw [List.length_set, List.length_cons]; omega
    · split
      · refine Nat.le_trans (depth_len most l _) ?_
        rw [List.length_append, List.length_cons]; simp; omega
      · exact Nat.le_add_right _ _
abbrev lvlL (v : Value) (l : List Lvl) : Chunk := .own 66 3 v l.length (l.flatMap Lvl.enc)
set_option maxHeartbeats 2000000 in
set_option maxRecDepth 100000 in
theorem ref9Depth {w : World} {vb vs : Value} {b : Bk} {s most : Int} (hlen : (sideF b s).length ≤ 1000000000) (hb : RSl Rst.enc 7 w [] vb b.buys) (hs : RSl Rst.enc 7 w [] vs b.sells) :
    Spec Go.Proofs.Try.prog 53 #[.agg (b.cells vb vs).toArray, .int .i64 s, .int .i64 most] w [] (fun u H' => ∃ A c, u = .slice A (depthF b s most).length c ∧ H' = [lvlL (.slice A (depthF b s most).length c) (depthF b s most)]) := by
  have hS := RSl.side hb hs s
  obtain ⟨l, hl⟩ : ∃ l, l = sideF b s := ⟨_, rfl⟩
  obtain ⟨v, hv⟩ : ∃ v, v = sideV vb vs s := ⟨_, rfl⟩
  have hD : depthF b s most = depthS most [] l := by rw [hl]; rfl
  rw [← hl, ← hv] at hS
  rw [← hl] at hlen
  refine Spec.enter (fn := Go.Proofs.Try.f53) (n := 87) [.agg (b.cells vb vs).toArray, .int .i64 s, .int .i64 most] Go.Proofs.Try.func53 (by kernel_rfl) rfl Go.Proofs.Try.ntmps53 Go.Proofs.Try.results53 rfl (Own.nil _) ?_
  refine JC.rs ?_
  refine Seq.box (cs := [_, _, _, _, _, _]) (k := ?_); intro b3
  refine Seq.p rfl Ev.assign ?_
  refine Seq.nil ?_
  refine JC.rs ?_
  refine Seq.buildSl (cs := []) (hsl := sl.sl_api_Level) (hz := z.api_Level) (hcs := rfl) (k := ?_); intro b11
  refine Seq.re (fun w h => Upd.boxOwn h (n := 0) (size := 3) At.z rfl (by omega)) ?_
  refine Seq.p rfl Ev.assign ?_
  refine Seq.nil ?_
  refine JC.rs ?_
  refine Seq.p rfl (Ev.ldBA ag.api_Book) ?_
  refine Seq.p rfl Ev.move ?_
  refine Seq.callP (v := v) rfl (fun w' hw => by rw [hv]; exact ref9side (s := s)) ?_
  refine Seq.p rfl Ev.assign ?_
  refine Seq.nil ?_
  refine JC.seq ?_
  refine JC.rs ?_
  refine Seq.p rfl Ev.assign ?_
  refine Seq.nil ?_
  refine JC.blk ?_
  refine JC.loop (α := List Lvl × Nat) (I := fun x e1 H1 => ∃ A c, Has [6, 7, 9, 10, 15, 16, 17, 18, 19, 20, 21, 22, 23, 24, 25, 26, 27, 28, 29, 30, 31, 32, 33, 34, 35, 36, 37, 38, 39, 40, 41, 42, 43, 44, 45, 46, 47, 48, 49, 50, 51, 52, 53, 54, 55, 56, 57, 58, 59, 60, 61, 62, 63, 64, 65, 66, 67, 68, 69, 70, 71, 72, 73, 74, 75, 76, 77, 78, 79, 80, 81, 82, 83, 84, 85] [(7, .slice A x.1.length c), (9, .int .i64 (x.2 : Int))] _ e1 ∧ x.2 ≤ l.length ∧ x.1.length ≤ x.2 ∧ (∀ y ∈ x.1, y.count ≤ x.2) ∧ depthS most x.1 (l.drop x.2) = depthF b s most ∧ H1 = [lvlL (.slice A x.1.length c) x.1, .box b3 49 (b.cells vb vs)]) (μ := fun x => l.length + 1 - x.2) ([], 0) ⟨some ⟨b11, 0, none⟩, 0, Has.mk Off.refl (allLook_cons (by repeat (first | exact Look.here | apply Look.there (hne := rfl) | exact Look.const | apply Look.mix rfl | exact Look.arg0 | apply Look.args | exact Look.func)) (allLook_cons (by repeat (first | exact Look.here | apply Look.there (hne := rfl) | exact Look.const | apply Look.mix rfl | exact Look.arg0 | apply Look.args | exact Look.func)) allLook_nil)), by simp, by simp, by simp, by rw [hD]; rfl, rfl⟩ ?_
  rintro ⟨r, i⟩ _ _ ⟨A, c, ⟨u, rfl⟩, hi, hri, hct, hJ, rfl⟩; dsimp only [setL] at *
  refine JC.seq ?_
  refine JC.rs ?_
  refine Seq.p rfl Ev.move ?_
  refine Seq.p rfl Ev.move ?_
  refine Seq.p rfl (Ev.lenSl sl.sl_api_Resting (hr := hS.r)) ?_
  refine Seq.p rfl Ev.lt ?_
  refine Seq.nil ?_
  first | refine JC.c (ht := fun c18 => ?_) (hf := fun c18 => ?_) | refine JC.cb (ht := fun c18 => ?_) (hf := fun c18 => ?_)
  · -- then_t18
    have hi2 : i < l.length := by omega
    have hdr : l.drop i = l[i]! :: l.drop (i + 1) := by rw [getElem!_pos l i hi2]; exact List.drop_eq_getElem_cons hi2
    rw [hdr] at hJ
    refine JC.skip ?_
    refine JC.seq ?_
    refine JC.blk ?_
    refine JC.rs ?_
    refine Seq.p rfl Ev.move ?_
    refine Seq.p rfl (Ev.lenSl sl.sl_api_Level (hr := (RAt.own (enc := Lvl.enc) (v := .slice A r.length c) (xs := r) (hs := by omega)))) ?_
    refine Seq.p rfl Ev.assign ?_
    refine Seq.nil ?_
    refine JC.qs mixed (by kernel_rfl) ?_
    refine Qui.p rfl Ev.move ?_
    refine Qui.p rfl Ev.gt ?_
    refine Qui.p rfl Ev.move ?_
    refine Qui.andG (D := [25, 26, 27, 28, 29, 30, 31, 32, 33, 34, 35, 36, 37, 38]) (d := 25) (t := 38) (k := 13) (hn := fun h25 => ?_) (hx := ?_)
    · repeat (first | refine Qui.gn rfl rfl rfl rfl ?_ | refine Qui.gu rfl rfl rfl ?_)
      refine Qui.p rfl Ev.pickF ?_
      exact Qui.nil ⟨(by repeat (first | with_reducible exact Off.refl | refine Off.upd ?_ rfl | exact Off.mix | refine Off.mix2 ?_ rfl)), Look.here⟩
    apply Exists.intro
    refine ⟨fun h25 => ?_, fun u38 => ?_⟩
    · try simp only [decide_eq_true_eq, decide_eq_false_iff_not, Bool.and_eq_true, Bool.or_eq_true, Bool.not_eq_true', Bool.not_eq_false', Bool.or_eq_false_iff, Bool.and_eq_false_imp] at h25
      refine Qui.gy rfl rfl rfl ?_
      refine Qui.p rfl Ev.move ?_
      refine Qui.gy rfl rfl rfl ?_
      refine Qui.p rfl Ev.move ?_
      refine Qui.gy rfl rfl rfl ?_
      refine Qui.p rfl (Ev.subN (a := r.length) (b := 1)) ?_
      refine Qui.gy rfl rfl rfl ?_
      refine Qui.p rfl (Ev.iaN sl.sl_api_Level (hr := (RAt.own (enc := Lvl.enc) (v := .slice A r.length c) (xs := r) (hs := by omega)))) ?_
      refine Qui.gy rfl rfl rfl ?_
      refine Qui.p rfl (Ev.fa fd.api_Level_0) ?_
      refine Qui.gy rfl rfl rfl ?_
      refine Qui.p rfl (Ev.ldE sc.int (hr := (RAt.own (enc := Lvl.enc) (v := .slice A r.length c) (xs := r) (hs := by omega)))) ?_
      refine Qui.gy rfl rfl rfl ?_
      refine Qui.p rfl Ev.move ?_
      refine Qui.gy rfl rfl rfl ?_
      refine Qui.p rfl Ev.move ?_
      refine Qui.gy rfl rfl rfl ?_
      refine Qui.p rfl (Ev.iaN sl.sl_api_Resting (hr := hS.r)) ?_
      refine Qui.gy rfl rfl rfl ?_
      refine Qui.p rfl (Ev.fa fd.api_Resting_3) ?_
      refine Qui.gy rfl rfl rfl ?_
      refine Qui.p rfl (Ev.ldE sc.int (hr := hS.r)) ?_
      refine Qui.gy rfl rfl rfl ?_
      refine Qui.p rfl Ev.eq ?_
      refine Qui.p rfl Ev.pickT ?_
      exact Qui.nil ⟨(by repeat (first | with_reducible exact Off.refl | refine Off.upd ?_ rfl | exact Off.mix | refine Off.mix2 ?_ rfl)), Look.here⟩
    refine Qui.nil ?_
    first | refine JC.c (ht := fun c38 => ?_) (hf := fun c38 => ?_) | refine JC.cb (ht := fun c38 => ?_) (hf := fun c38 => ?_)
    · -- then_t38
      simp only [Bool.and_eq_true, decide_eq_true_eq] at c38
      have hn0 : 0 < r.length := by omega
      have hJ3 : depthS most (r.set (r.length - 1) (⟨r[r.length - 1]!.price, (r[r.length - 1]!.qty + l[i]!.vis) % 18446744073709551616, r[r.length - 1]!.count + 1⟩ : Lvl)) (l.drop (i + 1)) = depthF b s most := by rw [← hJ, depthS, if_pos ⟨hn0, c38.2⟩]
      have hz1 : (r.set (r.length - 1) (⟨r[r.length - 1]!.price, (r[r.length - 1]!.qty + l[i]!.vis) % 18446744073709551616, r[r.length - 1]!.count⟩ : Lvl))[r.length - 1]! = (⟨r[r.length - 1]!.price, (r[r.length - 1]!.qty + l[i]!.vis) % 18446744073709551616, r[r.length - 1]!.count⟩ : Lvl) := set_get! (by omega)
      have hz2 := hct _ (show r[r.length - 1]! ∈ r by rw [getElem!_pos r _ (by omega)]; exact List.getElem_mem _)
      have hct2 : ∀ y ∈ (r.set (r.length - 1) (⟨r[r.length - 1]!.price, (r[r.length - 1]!.qty + l[i]!.vis) % 18446744073709551616, r[r.length - 1]!.count + 1⟩ : Lvl)), y.count ≤ i + 1 := fun y hz => by
        rcases List.mem_or_eq_of_mem_set hz with h | h
        · have := hct y h; omega
        · subst h; show r[r.length - 1]!.count + 1 ≤ _; omega
      refine JC.fact (p := ∃ g o, A = some ⟨g, o, none⟩) (fun w hw => OwnR.some (At.ok (At.z (c := lvlL (.slice A r.length c) r)) hw) hn0) ?_
      rintro ⟨ag1, ao1, rfl⟩
      have hl2 : (r.set (r.length - 1) (⟨r[r.length - 1]!.price, (r[r.length - 1]!.qty + l[i]!.vis) % 18446744073709551616, r[r.length - 1]!.count + 1⟩ : Lvl)).length = r.length := List.length_set
      refine JC.asE 0 mixed ?_
      refine Any.p 0 rfl (by kernel_rfl) (by kernel_rfl) (by kernel_rfl) rfl Ev.move ?_
      refine Any.p 1 rfl (by kernel_rfl) (by kernel_rfl) (by kernel_rfl) rfl Ev.move ?_
      refine Any.p 2 rfl (by kernel_rfl) (by kernel_rfl) (by kernel_rfl) rfl (Ev.subN (a := r.length) (b := 1)) ?_
      refine Any.p 3 rfl (by kernel_rfl) (by kernel_rfl) (by kernel_rfl) rfl Ev.move ?_
      refine Any.p 4 rfl (by kernel_rfl) (by kernel_rfl) (by kernel_rfl) rfl Ev.move ?_
      refine Any.p 5 rfl (by kernel_rfl) (by kernel_rfl) (by kernel_rfl) rfl (Ev.subN (a := r.length) (b := 1)) ?_
      refine Any.p 6 rfl (by kernel_rfl) (by kernel_rfl) (by kernel_rfl) rfl (Ev.iaLit sl.sl_api_Level (i := r.length - 1) (hi := by omega)) ?_
      refine Any.p 7 rfl (by kernel_rfl) (by kernel_rfl) (by kernel_rfl) rfl (Ev.fa fd.api_Level_1) ?_
      refine Any.p 9 rfl (by kernel_rfl) (by kernel_rfl) (by kernel_rfl) rfl Ev.move ?_
      refine Any.p 10 rfl (by kernel_rfl) (by kernel_rfl) (by kernel_rfl) rfl Ev.move ?_
      refine Any.p 11 rfl (by kernel_rfl) (by kernel_rfl) (by kernel_rfl) rfl (Ev.iaN sl.sl_api_Resting (hr := hS.r)) ?_
      refine Any.p 12 rfl (by kernel_rfl) (by kernel_rfl) (by kernel_rfl) rfl (Ev.fa fd.api_Resting_4) ?_
      refine Any.p 13 rfl (by kernel_rfl) (by kernel_rfl) (by kernel_rfl) rfl (Ev.ldE sc.uint64 (hr := hS.r)) ?_
      refine Any.one 8 rfl (by kernel_rfl) ?_
      refine Seq.p rfl (Ev.ldE sc.uint64 (hr := (RAt.own (enc := Lvl.enc) (v := .slice (some ⟨ag1, ao1, none⟩) r.length c) (xs := r) (hs := by omega)))) ?_
      refine Seq.nil ⟨(by repeat (first | exact Part.refl _ | exact Part.nil _ | apply Part.here | apply Part.skip)), ?_⟩
      refine Any.p 14 rfl (by kernel_rfl) (by kernel_rfl) (by kernel_rfl) rfl (Ev.addNM (a := r[r.length - 1]!.qty) (b := l[i]!.vis)) ?_
      refine Any.p 15 rfl (by kernel_rfl) (by kernel_rfl) (by kernel_rfl) rfl (Ev.iaLit sl.sl_api_Level (i := r.length - 1) (hi := by omega)) ?_
      refine Any.p 16 rfl (by kernel_rfl) (by kernel_rfl) (by kernel_rfl) rfl (Ev.fa fd.api_Level_1) ?_
      refine Any.one 17 rfl (by kernel_rfl) ?_
      refine Seq.stOwnF (enc := Lvl.enc) (v := .slice (some ⟨ag1, ao1, none⟩) r.length c) (xs := r) (q := r.length - 1) (⟨r[r.length - 1]!.price, (r[r.length - 1]!.qty + l[i]!.vis) % 18446744073709551616, r[r.length - 1]!.count⟩ : Lvl) sz.uint64 (vs := [.int .u64 (((r[r.length - 1]!.qty + l[i]!.vis) % 18446744073709551616 : Nat) : Int)]) (hpos := by simp) (hfit := by simp) (h1 := by simp [Value.oneCell']) (hz := rfl) (k := ?_)
      refine Seq.nil ⟨(by repeat (first | exact Part.refl _ | exact Part.nil _ | apply Part.here | apply Part.skip)), ?_⟩
      refine Any.done (by kernel_rfl) ?_
      refine JC.reg ?_
      refine Seq.p rfl Ev.move ?_
      refine Seq.p rfl Ev.move ?_
      refine Seq.p rfl (Ev.subN (a := r.length) (b := 1)) ?_
      refine Seq.p rfl Ev.move ?_
      refine Seq.p rfl Ev.move ?_
      refine Seq.p rfl (Ev.subN (a := r.length) (b := 1)) ?_
      refine Seq.p rfl (Ev.iaN sl.sl_api_Level (i := r.length - 1) (hr := (RAt.own (enc := Lvl.enc) (v := .slice (some ⟨ag1, ao1, none⟩) r.length c) (xs := (r.set (r.length - 1) (⟨r[r.length - 1]!.price, (r[r.length - 1]!.qty + l[i]!.vis) % 18446744073709551616, r[r.length - 1]!.count⟩ : Lvl))) (hs := by simp; omega))) (hi := by simp; omega)) ?_
      refine Seq.p rfl (Ev.fa fd.api_Level_2) ?_
      refine Seq.p rfl (Ev.asR (v' := .int .i64 ((r[r.length - 1]!.count : Nat) : Int)) (Ev.ldE sc.int (i := r.length - 1) (hr := (RAt.own (enc := Lvl.enc) (v := .slice (some ⟨ag1, ao1, none⟩) r.length c) (xs := (r.set (r.length - 1) (⟨r[r.length - 1]!.price, (r[r.length - 1]!.qty + l[i]!.vis) % 18446744073709551616, r[r.length - 1]!.count⟩ : Lvl))) (hs := by simp; omega))) (hi := by simp; omega)) (by rw [hz1])) ?_
      refine Seq.p rfl (by first | exact Ev.inc | exact Ev.add) ?_
      refine Seq.p rfl (Ev.iaN sl.sl_api_Level (i := r.length - 1) (hr := (RAt.own (enc := Lvl.enc) (v := .slice (some ⟨ag1, ao1, none⟩) r.length c) (xs := (r.set (r.length - 1) (⟨r[r.length - 1]!.price, (r[r.length - 1]!.qty + l[i]!.vis) % 18446744073709551616, r[r.length - 1]!.count⟩ : Lvl))) (hs := by simp; omega))) (hi := by simp; omega)) ?_
      refine Seq.p rfl (Ev.fa fd.api_Level_2) ?_
      refine Seq.stOwnF (enc := Lvl.enc) (v := .slice (some ⟨ag1, ao1, none⟩) r.length c) (xs := (r.set (r.length - 1) (⟨r[r.length - 1]!.price, (r[r.length - 1]!.qty + l[i]!.vis) % 18446744073709551616, r[r.length - 1]!.count⟩ : Lvl))) (q := r.length - 1) (⟨r[r.length - 1]!.price, (r[r.length - 1]!.qty + l[i]!.vis) % 18446744073709551616, r[r.length - 1]!.count + 1⟩ : Lvl) sz.int (vs := [.int .i64 ((r[r.length - 1]!.count + 1 : Nat) : Int)]) (hpos := by simp) (hfit := by simp) (h1 := by simp [Value.oneCell']) (hq := by simp; omega) (hz := by rw [hz1]; rfl) (k := ?_)
      rw [show ((r.set (r.length - 1) (⟨r[r.length - 1]!.price, (r[r.length - 1]!.qty + l[i]!.vis) % 18446744073709551616, r[r.length - 1]!.count⟩ : Lvl)).set (r.length - 1) (⟨r[r.length - 1]!.price, (r[r.length - 1]!.qty + l[i]!.vis) % 18446744073709551616, r[r.length - 1]!.count + 1⟩ : Lvl)) = r.set (r.length - 1) (⟨r[r.length - 1]!.price, (r[r.length - 1]!.qty + l[i]!.vis) % 18446744073709551616, r[r.length - 1]!.count + 1⟩ : Lvl) from List.set_set ..]
      refine Seq.nil ?_
      refine JC.reg ?_
      refine Seq.p rfl Ev.move ?_
      refine Seq.p rfl (by first | exact Ev.inc | exact Ev.add) ?_
      refine Seq.p rfl Ev.assign ?_
      refine Seq.nil ?_
      first
        | (have _ := hn38; exact ⟨(r ++ [(⟨l[i]!.price, l[i]!.vis, 1⟩ : Lvl)], i + 1), [lvlL (.slice A84 (r ++ [(⟨l[i]!.price, l[i]!.vis, 1⟩ : Lvl)]).length c84) (r ++ [(⟨l[i]!.price, l[i]!.vis, 1⟩ : Lvl)]), .box b3 49 (b.cells vb vs)], (by repeat (first | exact Part.nil _ | refine Part.at (by repeat (first | exact At.z | apply At.s)) ?_)), ⟨A84, c84, Has.mk (by repeat (first | refine Off.upd ?_ rfl | exact Off.mix | refine Off.mix2 ?_ rfl | exact Off.refl)) (allLook_cons (by repeat (first | exact Look.here | apply Look.there (hne := rfl) | exact Look.const | apply Look.mix rfl | exact Look.arg0 | apply Look.args | exact Look.func)) (allLook_cons (by repeat (first | exact Look.here | apply Look.there (hne := rfl) | exact Look.const | apply Look.mix rfl | exact Look.arg0 | apply Look.args | exact Look.func)) allLook_nil)), hi2, by simp; omega, hct2, hJ3, rfl⟩, by simp only; omega⟩)
        | (exact ⟨((r.set (r.length - 1) (⟨r[r.length - 1]!.price, (r[r.length - 1]!.qty + l[i]!.vis) % 18446744073709551616, r[r.length - 1]!.count + 1⟩ : Lvl)), i + 1), _, Part.refl _, ⟨_, c, by rw [hl2]; exact Has.mk (by repeat (first | refine Off.upd ?_ rfl | exact Off.mix | refine Off.mix2 ?_ rfl | exact Off.refl)) (allLook_cons (by repeat (first | exact Look.here | apply Look.there (hne := rfl) | exact Look.const | apply Look.mix rfl | exact Look.arg0 | apply Look.args | exact Look.func)) (allLook_cons (by repeat (first | exact Look.here | apply Look.there (hne := rfl) | exact Look.const | apply Look.mix rfl | exact Look.arg0 | apply Look.args | exact Look.func)) allLook_nil)), hi2, by rw [hl2]; omega, hct2, hJ3, (by show _ = [Chunk.own 66 3 (.slice (some ⟨ag1, ao1, none⟩) (r.set (r.length - 1) (⟨r[r.length - 1]!.price, (r[r.length - 1]!.qty + l[i]!.vis) % 18446744073709551616, r[r.length - 1]!.count + 1⟩ : Lvl)).length c) (r.set (r.length - 1) (⟨r[r.length - 1]!.price, (r[r.length - 1]!.qty + l[i]!.vis) % 18446744073709551616, r[r.length - 1]!.count + 1⟩ : Lvl)).length ((r.set (r.length - 1) (⟨r[r.length - 1]!.price, (r[r.length - 1]!.qty + l[i]!.vis) % 18446744073709551616, r[r.length - 1]!.count + 1⟩ : Lvl)).flatMap Lvl.enc), Chunk.box b3 49 (b.cells vb vs)]; rw [hl2]; rfl)⟩, by simp only; omega⟩)
    · -- else_t38
      have hn38 : ¬ (0 < r.length ∧ r[r.length - 1]!.price = l[i]!.price) := by simpa using c38
      refine JC.rs ?_
      refine Seq.p rfl Ev.move ?_
      refine Seq.p rfl Ev.move ?_
      refine Seq.p rfl Ev.lt ?_
      refine Seq.nil ?_
      first | refine JC.c (ht := fun c70 => ?_) (hf := fun c70 => ?_) | refine JC.cb (ht := fun c70 => ?_) (hf := fun c70 => ?_)
      · -- then_t70
        have hJ3 : depthS most (r ++ [(⟨l[i]!.price, l[i]!.vis, 1⟩ : Lvl)]) (l.drop (i + 1)) = depthF b s most := by rw [← hJ, depthS, if_neg hn38, if_pos c70]
        have hct2 : ∀ y ∈ r ++ [(⟨l[i]!.price, l[i]!.vis, 1⟩ : Lvl)], y.count ≤ i + 1 := fun y hz => by
          rcases List.mem_append.1 hz with h | h
          · have := hct y h; omega
          · rw [List.mem_singleton.1 h]; show 1 ≤ i + 1; omega
        refine JC.anyP (H0 := [.box b3 49 (b.cells vb vs)]) mixed (by repeat (first | exact Part.refl _ | exact Part.nil _ | apply Part.here | apply Part.skip)) ?_
        refine Any.p 0 rfl (by kernel_rfl) (by kernel_rfl) (by kernel_rfl) rfl Ev.move ?_
        refine Any.p 1 rfl (by kernel_rfl) (by kernel_rfl) (by kernel_rfl) rfl Ev.move ?_
        refine Any.p 2 rfl (by kernel_rfl) (by kernel_rfl) (by kernel_rfl) rfl Ev.move ?_
        refine Any.p 3 rfl (by kernel_rfl) (by kernel_rfl) (by kernel_rfl) rfl (Ev.iaN sl.sl_api_Resting (hr := hS.r)) ?_
        refine Any.p 4 rfl (by kernel_rfl) (by kernel_rfl) (by kernel_rfl) rfl (Ev.fa fd.api_Resting_3) ?_
        refine Any.p 5 rfl (by kernel_rfl) (by kernel_rfl) (by kernel_rfl) rfl (Ev.ldE sc.int (hr := hS.r)) ?_
        refine Any.p 6 rfl (by kernel_rfl) (by kernel_rfl) (by kernel_rfl) rfl Ev.move ?_
        refine Any.p 7 rfl (by kernel_rfl) (by kernel_rfl) (by kernel_rfl) rfl Ev.move ?_
        refine Any.p 8 rfl (by kernel_rfl) (by kernel_rfl) (by kernel_rfl) rfl (Ev.iaN sl.sl_api_Resting (hr := hS.r)) ?_
        refine Any.p 9 rfl (by kernel_rfl) (by kernel_rfl) (by kernel_rfl) rfl (Ev.fa fd.api_Resting_4) ?_
        refine Any.p 10 rfl (by kernel_rfl) (by kernel_rfl) (by kernel_rfl) rfl (Ev.ldE sc.uint64 (hr := hS.r)) ?_
        refine Any.p 11 rfl (by kernel_rfl) (by kernel_rfl) (by kernel_rfl) rfl (Ev.buildN [_, _, _] pl.api_Level z.api_Level) ?_
        refine Any.one 12 rfl (by kernel_rfl) ?_
        refine Seq.buildSlN (⟨l[i]!.price, l[i]!.vis, 1⟩ : Lvl).enc (hsl := sl.sl_api_Level) (hz := z.api_Level) (k := ?_); intro b83
        refine Seq.nil ⟨(by repeat (first | exact Part.refl _ | exact Part.nil _ | apply Part.here | apply Part.skip)), ?_⟩
        refine Any.one 13 rfl (by kernel_rfl) ?_
        refine Seq.append (j := 1) (hsl := sl.sl_api_Level) (he := el.api_Level) (hsrc := fun w' hw => Src.box (news := (⟨l[i]!.price, l[i]!.vis, 1⟩ : Lvl).enc) sl.sl_api_Level (by repeat (first | exact At.z | apply At.s)) hw rfl (fun q u hu => hu)) (k := ?_); intro A84 c84
        rw [show r.length + 1 = (r ++ [(⟨l[i]!.price, l[i]!.vis, 1⟩ : Lvl)]).length by simp, show r.flatMap Lvl.enc ++ (⟨l[i]!.price, l[i]!.vis, 1⟩ : Lvl).enc = (r ++ [(⟨l[i]!.price, l[i]!.vis, 1⟩ : Lvl)]).flatMap Lvl.enc by simp]
        refine Seq.nil ⟨(by repeat (first | exact Part.refl _ | exact Part.nil _ | apply Part.here | apply Part.skip)), ?_⟩
        refine Any.p 14 rfl (by kernel_rfl) (by kernel_rfl) (by kernel_rfl) rfl Ev.assign ?_
        refine Any.done (by kernel_rfl) ?_
        refine JC.reg ?_
        refine Seq.p rfl Ev.move ?_
        refine Seq.p rfl (by first | exact Ev.inc | exact Ev.add) ?_
        refine Seq.p rfl Ev.assign ?_
        refine Seq.nil ?_
        first
          | (have _ := hn38; exact ⟨(r ++ [(⟨l[i]!.price, l[i]!.vis, 1⟩ : Lvl)], i + 1), [lvlL (.slice A84 (r ++ [(⟨l[i]!.price, l[i]!.vis, 1⟩ : Lvl)]).length c84) (r ++ [(⟨l[i]!.price, l[i]!.vis, 1⟩ : Lvl)]), .box b3 49 (b.cells vb vs)], (by repeat (first | exact Part.nil _ | refine Part.at (by repeat (first | exact At.z | apply At.s)) ?_)), ⟨A84, c84, Has.mk (by repeat (first | refine Off.upd ?_ rfl | exact Off.mix | refine Off.mix2 ?_ rfl | exact Off.refl)) (allLook_cons (by repeat (first | exact Look.here | apply Look.there (hne := rfl) | exact Look.const | apply Look.mix rfl | exact Look.arg0 | apply Look.args | exact Look.func)) (allLook_cons (by repeat (first | exact Look.here | apply Look.there (hne := rfl) | exact Look.const | apply Look.mix rfl | exact Look.arg0 | apply Look.args | exact Look.func)) allLook_nil)), hi2, by simp; omega, hct2, hJ3, rfl⟩, by simp only; omega⟩)
          | (exact ⟨((r.set (r.length - 1) (⟨r[r.length - 1]!.price, (r[r.length - 1]!.qty + l[i]!.vis) % 18446744073709551616, r[r.length - 1]!.count + 1⟩ : Lvl)), i + 1), _, Part.refl _, ⟨_, c, by rw [hl2]; exact Has.mk (by repeat (first | refine Off.upd ?_ rfl | exact Off.mix | refine Off.mix2 ?_ rfl | exact Off.refl)) (allLook_cons (by repeat (first | exact Look.here | apply Look.there (hne := rfl) | exact Look.const | apply Look.mix rfl | exact Look.arg0 | apply Look.args | exact Look.func)) (allLook_cons (by repeat (first | exact Look.here | apply Look.there (hne := rfl) | exact Look.const | apply Look.mix rfl | exact Look.arg0 | apply Look.args | exact Look.func)) allLook_nil)), hi2, by rw [hl2]; omega, hct2, hJ3, (by show _ = [Chunk.own 66 3 (.slice (some ⟨ag1, ao1, none⟩) (r.set (r.length - 1) (⟨r[r.length - 1]!.price, (r[r.length - 1]!.qty + l[i]!.vis) % 18446744073709551616, r[r.length - 1]!.count + 1⟩ : Lvl)).length c) (r.set (r.length - 1) (⟨r[r.length - 1]!.price, (r[r.length - 1]!.qty + l[i]!.vis) % 18446744073709551616, r[r.length - 1]!.count + 1⟩ : Lvl)).length ((r.set (r.length - 1) (⟨r[r.length - 1]!.price, (r[r.length - 1]!.qty + l[i]!.vis) % 18446744073709551616, r[r.length - 1]!.count + 1⟩ : Lvl)).flatMap Lvl.enc), Chunk.box b3 49 (b.cells vb vs)]; rw [hl2]; rfl)⟩, by simp only; omega⟩)
      · -- else_t70
        have hJ2 : r = depthF b s most := by rw [← hJ, depthS, if_neg hn38, if_neg c70]
        refine JC.rs ?_
        refine Seq.p rfl Ev.move ?_
        refine Seq.p rfl Ev.assign ?_
        refine Seq.nil ?_
        refine JC.ret ?_
        show retQ _ _ _ _ _ _ _ _
        refine ret1 (hp := show Part [lvlL (.slice A r.length c) r] _ from by repeat (first | exact Part.nil _ | refine Part.at (by repeat (first | exact At.z | apply At.s)) ?_)) (hpost := ?_)
        rw [← hJ2]
        exact ⟨A, c, rfl, rfl⟩
  · -- else_t18
    have hie : i = l.length := by omega
    have hJ2 : r = depthF b s most := by rw [← hJ, hie, List.drop_length]; rfl
    refine JC.exit ?_ -- 0
    refine JC.rs ?_
    refine Seq.p rfl Ev.move ?_
    refine Seq.p rfl Ev.assign ?_
    refine Seq.nil ?_
    refine JC.ret ?_
    show retQ _ _ _ _ _ _ _ _
    refine ret1 (hp := show Part [lvlL (.slice A r.length c) r] _ from by repeat (first | exact Part.nil _ | refine Part.at (by repeat (first | exact At.z | apply At.s)) ?_)) (hpost := ?_)
    rw [← hJ2]
    exact ⟨A, c, rfl, rfl⟩
def firstL : List Lvl → Lvl × Bool
  | [] => (default, false)
  | y :: _ => (y, true)
def bestF (b : Bk) (s : Int) : Lvl × Bool := firstL (depthF b s 1)
set_option maxHeartbeats 2000000 in
set_option maxRecDepth 100000 in
theorem ref9Best {w : World} {vb vs : Value} {b : Bk} {s : Int} (hlen : (sideF b s).length ≤ 1000000000) (hb : RSl Rst.enc 7 w [] vb b.buys) (hs : RSl Rst.enc 7 w [] vs b.sells) :
    Spec Go.Proofs.Try.prog 52 #[.agg (b.cells vb vs).toArray, .int .i64 s] w [] (fun u _ => u = .tuple #[.agg (bestF b s).1.enc.toArray, .bool (bestF b s).2]) := by
  obtain ⟨l, hl⟩ : ∃ l, l = depthF b s 1 := ⟨_, rfl⟩
  have hll : l.length ≤ 1000000000 := by
    have := depth_len 1 (sideF b s) []
    rw [hl]
    show (depthS 1 [] (sideF b s)).length ≤ _
    simp only [List.length_nil] at this
    omega
  have hB : bestF b s = firstL l := by rw [hl]; rfl
  refine Spec.enter (fn := Go.Proofs.Try.f52) (n := 17) [.agg (b.cells vb vs).toArray, .int .i64 s] Go.Proofs.Try.func52 (by kernel_rfl) rfl Go.Proofs.Try.ntmps52 Go.Proofs.Try.results52 rfl (Own.nil _) ?_
  refine JC.rs ?_
  refine Seq.box (cs := [_, _, _, _, _, _]) (k := ?_); intro b2
  refine Seq.alloc (cs := [_, _, _]) (hz := z.api_Level) (k := ?_); intro b4
  refine Seq.p rfl Ev.assign ?_
  refine Seq.nil ?_
  refine JC.rs ?_
  refine Seq.p rfl (Ev.ldBA ag.api_Book) ?_
  refine Seq.p rfl Ev.move ?_
  refine Seq.call rfl (fun w' hw => by have h := ref9Depth (b := b) (s := s) (most := 1) hlen (hb.up hw) (hs.up hw); rw [← hl] at h; exact h) (Gs := []) (F := _) (by exact List.Perm.refl _) ?_
  rintro _ _ ⟨A9, c9, rfl, rfl⟩
  simp only [List.cons_append, List.nil_append]
  refine Seq.p rfl Ev.assign ?_
  refine Seq.nil ?_
  refine JC.seq ?_
  refine JC.rs ?_
  refine Seq.p rfl Ev.move ?_
  refine Seq.p rfl (Ev.lenSl sl.sl_api_Level (hr := (RAt.own (enc := Lvl.enc) (v := .slice A9 l.length c9) (xs := l) (hs := by omega)))) ?_
  refine Seq.p rfl Ev.eq ?_
  refine Seq.nil ?_
  first | refine JC.c (ht := fun c12 => ?_) (hf := fun c12 => ?_) | refine JC.cb (ht := fun c12 => ?_) (hf := fun c12 => ?_)
  · -- then_t12
    refine JC.rs ?_
    refine Seq.p rfl (Ev.buildN [_, _, _] pl.api_Level z.api_Level) ?_
    refine Seq.storeN [_, _, _] sz.api_Level (k := ?_)
    refine Seq.p rfl Ev.assign ?_
    refine Seq.nil ?_
    refine JC.ret ?_
    show retQ _ _ _ _ _ _ _ _
    refine retB2 ag.api_Level (hp := Part.nil _) (hpost := ?_)
    have h0 : l = [] := List.eq_nil_of_length_eq_zero (by omega)
    rw [hB, h0]
    rfl
  · -- else_t12
    refine JC.skip ?_
    refine JC.rs ?_
    refine Seq.p rfl Ev.move ?_
    refine Seq.p rfl (Ev.iaN sl.sl_api_Level (i := 0) (hr := RAt.own (enc := Lvl.enc) (v := .slice A9 l.length c9) (xs := l) (hs := by omega)) (hi := by omega)) ?_
    refine Seq.p rfl (Ev.ldEA ag.api_Level (i := 0) (hr := RAt.own (enc := Lvl.enc) (v := .slice A9 l.length c9) (xs := l) (hs := by omega)) (hi := by omega)) ?_
    refine Seq.storeN [_, _, _] sz.api_Level (k := ?_)
    refine Seq.p rfl Ev.assign ?_
    refine Seq.nil ?_
    refine JC.ret ?_
    show retQ _ _ _ _ _ _ _ _
    refine retB2 ag.api_Level (hp := Part.nil _) (hpost := ?_)
    rw [hB]
    match l, c12 with
    | [], c12 => exact absurd rfl c12
    | y :: l, _ => rfl
end Go.Rx
/- The book over trees: its levels told. -/
namespace Go.Rx
open Go Go.RowKit
set_option linter.unusedVariables false
set_option linter.unusedSimpArgs false
def lvlM (l : LevA) : Lvl := ⟨l.price, shownF l.os, l.os.length⟩
theorem depth_level (most : Int) (p : Int) : ∀ (ys : List OrdA) (r : List Lvl) (q n : Nat) (rest : List Rst), (∀ o ∈ ys, o.r.price = p) → q + shownF ys < 18446744073709551616 →
    depthS most (r ++ [⟨p, q, n⟩]) (ys.map (fun o => o.r) ++ rest) = depthS most (r ++ [⟨p, q + shownF ys, n + ys.length⟩]) rest
  | [], r, q, n, rest, _, _ => by simp [shownF]
  | o :: ys, r, q, n, rest, h, hb => by
    have hp := h o List.mem_cons_self
    rw [shown_cons] at hb
    have hl : (r ++ [(⟨p, q, n⟩ : Lvl)]).length = r.length + 1 := by simp
    have hg : (r ++ [(⟨p, q, n⟩ : Lvl)])[r.length]! = ⟨p, q, n⟩ := by
      rw [getElem!_pos _ _ (by rw [hl]; omega)]; simp
    have hs : ∀ y : Lvl, (r ++ [(⟨p, q, n⟩ : Lvl)]).set r.length y = r ++ [y] := fun y => by rw [List.set_append_right _ _ (Nat.le_refl _)]; simp
    show depthS most (r ++ [⟨p, q, n⟩]) (o.r :: (ys.map (fun o => o.r) ++ rest)) = _
    rw [depthS]
    rw [if_pos (by rw [hl, show r.length + 1 - 1 = r.length by omega, hg]; exact ⟨by omega, hp.symm⟩), hl, show r.length + 1 - 1 = r.length by omega, hg, hs]
    dsimp only
    rw [Nat.mod_eq_of_lt (by omega), depth_level most p ys r (q + o.r.vis) (n + 1) rest (fun x hx => h x (List.mem_cons_of_mem _ hx)) (by omega), shown_cons, List.length_cons, Nat.add_assoc, Nat.add_assoc n 1, Nat.add_comm 1]
theorem depth_levels (most : Nat) : ∀ (M : List LevA) (r : List Lvl), (∀ l ∈ M, l.os ≠ [] ∧ (∀ o ∈ l.os, o.r.price = l.price) ∧ shownF l.os < 18446744073709551616) → (M.map LevA.price).Pairwise (fun a b => a ≠ b) → (0 < r.length → ∀ l ∈ M, r[r.length - 1]!.price ≠ l.price) → r.length ≤ most →
    depthS (most : Int) r (M.flatMap LevA.rs) = r ++ (M.take (most - r.length)).map lvlM
  | [], r, _, _, _, _ => by simp [depthS]
  | l :: M, r, hM, hp, hr, hn => by
    obtain ⟨h1, h2, h3⟩ := hM l List.mem_cons_self
    obtain ⟨o, ys, hos⟩ := List.exists_cons_of_ne_nil h1
    have hop := h2 o (by rw [hos]; exact List.mem_cons_self)
    rw [List.flatMap_cons, show l.rs = o.r :: ys.map (fun o => o.r) by simp [LevA.rs, hos], List.cons_append]
    unfold depthS
    rw [if_neg (fun h => hr h.1 l List.mem_cons_self (by rw [h.2, hop]))]
    by_cases hc : r.length < most
    · rw [if_pos (by omega)]
      have hsh : shownF l.os = o.r.vis + shownF ys := by rw [hos, shown_cons]
      rw [hop, depth_level most l.price ys r o.r.vis 1 (M.flatMap LevA.rs) (fun x hx => h2 x (by rw [hos]; exact List.mem_cons_of_mem _ hx)) (by omega)]
      have hlm : (⟨l.price, o.r.vis + shownF ys, 1 + ys.length⟩ : Lvl) = lvlM l := by unfold lvlM; rw [hsh, hos, List.length_cons, Nat.add_comm 1]
      rw [hlm, depth_levels most M (r ++ [lvlM l]) (fun x hx => hM x (List.mem_cons_of_mem _ hx)) (List.pairwise_cons.1 hp).2 (fun _ x hx => ?_) (by simp; omega)]
      · rw [List.length_append, List.length_singleton, show most - r.length = (most - (r.length + 1)) + 1 by omega, List.take_succ_cons, List.map_cons, List.append_assoc]
        rfl
      · have e : (r ++ [lvlM l])[(r ++ [lvlM l]).length - 1]! = lvlM l := by
          rw [getElem!_pos _ _ (by simp)]; simp
        rw [e]
        exact (List.pairwise_cons.1 hp).1 x.price (List.mem_map_of_mem hx)
    · rw [if_neg (by omega), show most - r.length = 0 by omega]
      simp
theorem depth_abs {s : Int} {L : List LevA} (hs : s = 1 ∨ s = 2) (hso : sortL L) (hw : wfL L) (hb : ∀ l ∈ L, shownF l.os < 18446744073709551616) (most : Nat) : depthS (most : Int) [] (absS s L) = ((sideM s L).take most).map lvlM := by
  rw [abs_sideM, depth_levels most (sideM s L) [] (fun l hl => ⟨(hw l (sideM_mem.1 hl)).1, (hw l (sideM_mem.1 hl)).2, hb l (sideM_mem.1 hl)⟩) ((sideM_sort hso hs).imp fun {a b} h e => by rw [e, better_self] at h; cases h) (fun h => by simp at h) (Nat.zero_le _)]
  simp
set_option maxHeartbeats 4000000 in
set_option maxRecDepth 100000 in
theorem tbDepth1 {w : World} {bk mb high seq most : Nat} {cap meet : Int} {qa : Option Addr} {t : Tr} {L : List LevA} (hm : 1 ≤ most) (ht : tieL t L) (hw : wfL L) (hsz : t.size ≤ 100000) (hO : Own w [bookC bk cap meet t.adr qa mb high seq, treeC nodeT t, levsC 1 L]) :
    Spec Go.Proofs.Try.prog 22 #[.pointer (some ⟨bk, 0, none⟩), .int .i64 1, .int .i64 (most : Int)] w [bookC bk cap meet t.adr qa mb high seq, treeC nodeT t, levsC 1 L]
      (fun u H' => ∃ A c, u = .slice A (((sideM 1 L).take most).map lvlM).length c ∧ H' = [bookC bk cap meet t.adr qa mb high seq, treeC nodeT t, levsC 1 L, lvlL (.slice A (((sideM 1 L).take most).map lvlM).length c) (((sideM 1 L).take most).map lvlM)]) := by
  have hts := tie_size ht
  obtain ⟨M, hM⟩ : ∃ M, M = (sideM 1 L).take most := ⟨_, rfl⟩
  have hMm : ∀ l ∈ M, l ∈ L := fun l hl => sideM_mem.1 (List.mem_of_mem_take (by rw [hM] at hl; exact hl))
  have hMl : M.length ≤ t.size := by rw [hM, List.length_take, sideM_len, hts]; omega
  have hlev := levV_1 ht most
  rw [← hM] at hlev
  rw [← hM]
  have hll : (M.flatMap levE).length = M.length := levE_len M
  refine Spec.enter (fn := Go.Proofs.Try.f22) (n := 51) [.pointer (some ⟨bk, 0, none⟩), .int .i64 1, .int .i64 (most : Int)] Go.Proofs.Try.func22 (by kernel_rfl) rfl Go.Proofs.Try.ntmps22 Go.Proofs.Try.results22 rfl hO ?_
  refine JC.rs ?_
  refine Seq.p rfl Ev.assign ?_
  refine Seq.nil ?_
  refine JC.seq ?_
  refine JC.rs ?_
  refine Seq.p rfl Ev.move ?_
  refine Seq.p rfl Ev.ne ?_
  refine Seq.p rfl Ev.move ?_
  refine Seq.andG (D := [12, 13, 14, 15]) (d := 12) (t := 15) (k := 3) (hn := fun h12 => ?_) (hx := ?_)
  · repeat (first | refine Seq.gn rfl rfl rfl rfl ?_ | refine Seq.gu rfl rfl rfl ?_)
    refine Seq.p rfl Ev.pickF ?_
    exact Seq.nil ⟨rfl, (by repeat (first | with_reducible exact Off.refl | refine Off.upd ?_ rfl | exact Off.mix | refine Off.mix2 ?_ rfl)), Look.here⟩
  apply Exists.intro
  refine ⟨fun h12 => ?_, fun u15 => ?_⟩
  · try simp only [decide_eq_true_eq, decide_eq_false_iff_not, Bool.and_eq_true, Bool.or_eq_true, Bool.not_eq_true', Bool.not_eq_false', Bool.or_eq_false_iff, Bool.and_eq_false_imp] at h12
    refine Seq.gy rfl rfl rfl ?_
    refine Seq.p rfl Ev.move ?_
    refine Seq.gy rfl rfl rfl ?_
    refine Seq.p rfl Ev.ne ?_
    refine Seq.p rfl Ev.pickT ?_
    exact Seq.nil ⟨rfl, (by repeat (first | with_reducible exact Off.refl | refine Off.upd ?_ rfl | exact Off.mix | refine Off.mix2 ?_ rfl)), Look.here⟩
  refine Seq.p rfl Ev.move ?_
  refine Seq.orG (D := [16, 17, 18, 19]) (d := 16) (t := 19) (k := 3) (hn := fun h16 => ?_) (hx := ?_)
  · repeat (first | refine Seq.gn rfl rfl rfl rfl ?_ | refine Seq.gu rfl rfl rfl ?_)
    refine Seq.p rfl Ev.pickT ?_
    exact Seq.nil ⟨rfl, (by repeat (first | with_reducible exact Off.refl | refine Off.upd ?_ rfl | exact Off.mix | refine Off.mix2 ?_ rfl)), Look.here⟩
  apply Exists.intro
  refine ⟨fun h16 => ?_, fun u19 => ?_⟩
  · try simp only [decide_eq_true_eq, decide_eq_false_iff_not, Bool.and_eq_true, Bool.or_eq_true, Bool.not_eq_true', Bool.not_eq_false', Bool.or_eq_false_iff, Bool.and_eq_false_imp] at h16
    refine Seq.gy rfl rfl rfl ?_
    refine Seq.p rfl Ev.move ?_
    refine Seq.gy rfl rfl rfl ?_
    refine Seq.p rfl Ev.lt ?_
    refine Seq.p rfl Ev.pickF ?_
    exact Seq.nil ⟨rfl, (by repeat (first | with_reducible exact Off.refl | refine Off.upd ?_ rfl | exact Off.mix | refine Off.mix2 ?_ rfl)), Look.here⟩
  refine Seq.nil ?_
  first | refine JC.c (ht := fun c19 => ?_) (hf := fun c19 => ?_) | refine JC.cb (ht := fun c19 => ?_) (hf := fun c19 => ?_)
  · -- then_t19
    exact absurd c19 (by simp; omega)
  · -- else_t19
    skip
    refine JC.skip ?_
    refine JC.rs ?_
    refine Seq.p rfl Ev.assign ?_
    refine Seq.re (fun w h => Upd.nilOwn h 66 3) ?_
    refine Seq.nil ?_
    refine JC.seq ?_
    refine JC.rs ?_
    refine Seq.p rfl Ev.move ?_
    refine Seq.p rfl Ev.move ?_
    refine Seq.p rfl Ev.move ?_
    refine Seq.call rfl (fun w' hw => tbLevels1 (tie_vals ht) hsz (Part.own (by repeat (first | exact Part.nil _ | refine Part.at (by repeat (first | exact At.z | apply At.s)) ?_)) hw.own)) (Gs := [bookC bk cap meet t.adr qa mb high seq, treeC nodeT t]) (F := _) (Perm.at (by repeat (first | exact At.z | apply At.s)) (Perm.at (by repeat (first | exact At.z | apply At.s)) (Perm.none _))) ?_
    rintro _ _ ⟨Al, cl, rfl, rfl⟩
    rw [show levVC Al cl (levV t.from1 most) = .own lpT 1 (.slice Al M.length cl) M.length (M.flatMap levE) by unfold levVC; rw [hlev, hll], hlev, hll]
    simp only [List.cons_append, List.nil_append, List.eraseIdx_cons_zero, List.eraseIdx_cons_succ]
    refine Seq.p rfl (Ev.lenH sl.sl_p_treebook_level) ?_
    refine Seq.p rfl Ev.move ?_
    refine Seq.nil ?_
    refine JC.blk ?_
    refine JC.re (H' := [bookC bk cap meet t.adr qa mb high seq, treeC nodeT t, levsC 1 L, .own lpT 1 (.slice Al M.length cl) M.length (M.flatMap levE), lvlL (.slice none 0 0) []]) (fun w hu => hu.part (by repeat (first | exact Part.nil _ | refine Part.at (by repeat (first | exact At.z | apply At.s)) ?_))) ?_
    refine JC.loop (α := Nat) (I := fun i e1 H1 => i ≤ M.length ∧ ∃ A c l, l = (M.take i).map lvlM ∧ Has [7, 9, 25, 26, 27, 28, 29, 30, 31, 32, 33, 34, 35, 36, 37, 38, 39, 40, 41, 42, 43, 44, 45, 46, 47, 48, 49] [(7, .slice A l.length c), (25, .int .i64 (i : Int))] _ e1 ∧ H1 = [bookC bk cap meet t.adr qa mb high seq, treeC nodeT t, levsC 1 L, .own lpT 1 (.slice Al M.length cl) M.length (M.flatMap levE), lvlL (.slice A l.length c) l]) (μ := fun i => M.length + 1 - i) 0 ⟨by omega, none, 0, [], by simp, Has.mk Off.refl (allLook_cons (by repeat (first | exact Look.here | apply Look.there (hne := rfl) | exact Look.const | apply Look.mix rfl | exact Look.arg0 | apply Look.args | exact Look.func)) (allLook_cons (by repeat (first | exact Look.here | apply Look.there (hne := rfl) | exact Look.const | apply Look.mix rfl | exact Look.arg0 | apply Look.args | exact Look.func)) allLook_nil)), rfl⟩ ?_
    rintro i _ _ ⟨hi, A, c, l, hl, ⟨u, rfl⟩, rfl⟩; dsimp only [setL]
    have hln : l.length = i := by rw [hl, List.length_map, List.length_take]; omega
    refine JC.rs ?_
    refine Seq.p rfl Ev.lt ?_
    refine Seq.nil ?_
    refine JC.seq ?_
    first | refine JC.c (ht := fun c26 => ?_) (hf := fun c26 => ?_) | refine JC.cb (ht := fun c26 => ?_) (hf := fun c26 => ?_)
    · -- then_t26
      have hi2 : i < M.length := by omega
      obtain ⟨lv, hlv⟩ : ∃ lv, lv = M[i]! := ⟨_, rfl⟩
      have hlm : lv ∈ L := hMm lv (by rw [hlv, getElem!_pos M i hi2]; exact List.getElem_mem hi2)
      obtain ⟨L1, L2, hLL⟩ := List.append_of_mem hlm
      obtain ⟨y1, ys, hys⟩ := List.exists_cons_of_ne_nil (hw lv hlm).1
      have hyp : y1.r.price = lv.price := (hw lv hlm).2 y1 (by rw [hys]; exact List.mem_cons_self)
      have hpi : l ++ [lvlM lv] = (M.take (i + 1)).map lvlM := by rw [hl, hlv, getElem!_pos M i hi2, ← List.take_append_getElem hi2, List.map_append]; rfl
      have hlo : ∀ {w0 w : World} {Cs F : List Chunk}, Upd w0 w Cs F → Part [levsC 1 L] F → Own w [levelC lv.a 1 lv.os] := fun hu hp => by
        have h0 := hp.own hu.own
        rw [hLL] at h0
        exact levs_level h0
      refine JC.skip ?_
      refine JC.seq ?_
      refine JC.blk ?_
      refine JC.rs ?_
      refine Seq.p rfl (Ev.iaN sl.sl_p_treebook_level (hr := RAt.own (enc := levE) (v := .slice Al M.length cl) (xs := M) (hs := by omega))) ?_
      refine Seq.p rfl (Ev.ldE1 sc.p_treebook_level (hr := RAt.own (enc := levE) (v := .slice Al M.length cl) (xs := M) (hs := by omega))) ?_
      rw [← hlv]
      refine Seq.p rfl Ev.assign ?_
      refine Seq.nil ?_
      refine JC.anyP (H0 := [bookC bk cap meet t.adr qa mb high seq, treeC nodeT t, levsC 1 L, .own lpT 1 (.slice Al M.length cl) M.length (M.flatMap levE)]) mixed (by repeat (first | exact Part.nil _ | refine Part.at (by repeat (first | exact At.z | apply At.s)) ?_)) ?_
      refine Any.p 0 rfl (by kernel_rfl) (by kernel_rfl) (by kernel_rfl) rfl Ev.move ?_
      refine Any.p 1 rfl (by kernel_rfl) (by kernel_rfl) (by kernel_rfl) rfl Ev.move ?_
      refine Any.p 2 rfl (by kernel_rfl) (by kernel_rfl) (by kernel_rfl) rfl Ev.nilP ?_
      refine Any.p 3 rfl (by kernel_rfl) (by kernel_rfl) (by kernel_rfl) rfl (Ev.faB fd.treebook_level_1 (bk := lv.a) (o := 0)) ?_
      refine Any.p 4 rfl (by kernel_rfl) (by kernel_rfl) (by kernel_rfl) rfl (Ev.ldS (v := .pointer (some ⟨y1.a, 0, none⟩)) sc.p_treebook_order (fun w hw => Cells.cell (w0 := w) (Cs := []) (H := []) (level_cell (off := 1) (side := 1) (hlo hw (by repeat (first | exact Part.nil _ | refine Part.at (by repeat (first | exact At.z | apply At.s)) ?_))) (by rw [hys]; rfl)) w (Upd.refl0 w))) ?_
      refine Any.p 5 rfl (by kernel_rfl) (by kernel_rfl) (by kernel_rfl) rfl Ev.nilP ?_
      refine Any.p 6 rfl (by kernel_rfl) (by kernel_rfl) (by kernel_rfl) rfl (Ev.faB fd.treebook_order_0 (bk := y1.a) (o := 0)) ?_
      refine Any.p 7 rfl (by kernel_rfl) (by kernel_rfl) (by kernel_rfl) rfl (Ev.faB fd.api_Resting_3 (bk := y1.a)) ?_
      refine Any.p 8 rfl (by kernel_rfl) (by kernel_rfl) (by kernel_rfl) rfl (Ev.ldS (v := .int .i64 lv.price) sc.int (fun w hw => Cells.cell (w0 := w) (Cs := []) (H := []) (order_cell (off := 3) (xs := []) (ys := ys) (o := y1) (by have h := hlo hw (by repeat (first | exact Part.nil _ | refine Part.at (by repeat (first | exact At.z | apply At.s)) ?_)); rw [hys] at h; exact h) (by rw [← hyp]; rfl)) w (Upd.refl0 w))) ?_
      refine Any.p 9 rfl (by kernel_rfl) (by kernel_rfl) (by kernel_rfl) rfl Ev.move ?_
      refine Any.p 10 rfl (by kernel_rfl) (by kernel_rfl) (by kernel_rfl) rfl Ev.nilP ?_
      refine Any.p 11 rfl (by kernel_rfl) (by kernel_rfl) (by kernel_rfl) rfl (Ev.faB fd.treebook_level_3 (bk := lv.a) (o := 0)) ?_
      refine Any.p 12 rfl (by kernel_rfl) (by kernel_rfl) (by kernel_rfl) rfl (Ev.ldS (v := .int .u64 (shownF lv.os : Int)) sc.uint64 (fun w hw => Cells.cell (w0 := w) (Cs := []) (H := []) (level_cell (side := 1) (hlo hw (by repeat (first | exact Part.nil _ | refine Part.at (by repeat (first | exact At.z | apply At.s)) ?_))) rfl) w (Upd.refl0 w))) ?_
      refine Any.p 13 rfl (by kernel_rfl) (by kernel_rfl) (by kernel_rfl) rfl Ev.move ?_
      refine Any.p 14 rfl (by kernel_rfl) (by kernel_rfl) (by kernel_rfl) rfl Ev.nilP ?_
      refine Any.p 15 rfl (by kernel_rfl) (by kernel_rfl) (by kernel_rfl) rfl (Ev.faB fd.treebook_level_4 (bk := lv.a) (o := 0)) ?_
      refine Any.p 16 rfl (by kernel_rfl) (by kernel_rfl) (by kernel_rfl) rfl (Ev.ldS (v := .int .i64 (lv.os.length : Int)) sc.int (fun w hw => Cells.cell (w0 := w) (Cs := []) (H := []) (level_cell (side := 1) (hlo hw (by repeat (first | exact Part.nil _ | refine Part.at (by repeat (first | exact At.z | apply At.s)) ?_))) rfl) w (Upd.refl0 w))) ?_
      refine Any.p 17 rfl (by kernel_rfl) (by kernel_rfl) (by kernel_rfl) rfl (Ev.buildN [_, _, _] pl.api_Level z.api_Level) ?_
      refine Any.one 18 rfl (by kernel_rfl) ?_
      refine Seq.buildSlN (lvlM lv).enc (hsl := sl.sl_api_Level) (hz := z.api_Level) (k := ?_); intro b47
      refine Seq.nil ⟨(by repeat (first | exact Part.nil _ | refine Part.at (by repeat (first | exact At.z | apply At.s)) ?_)), ?_⟩
      refine Any.one 19 rfl (by kernel_rfl) ?_
      refine Seq.append (j := 1) (hsl := sl.sl_api_Level) (he := el.api_Level) (hsrc := fun w' hw => Src.box (news := (lvlM lv).enc) sl.sl_api_Level (by repeat (first | exact At.z | apply At.s)) hw rfl (fun q u hu => hu)) (k := ?_); intro A48 c48
      rw [show l.length + 1 = (l ++ [lvlM lv]).length by simp, show l.flatMap Lvl.enc ++ (lvlM lv).enc = (l ++ [lvlM lv]).flatMap Lvl.enc by simp]
      refine Seq.nil ⟨(by repeat (first | exact Part.nil _ | refine Part.at (by repeat (first | exact At.z | apply At.s)) ?_)), ?_⟩
      refine Any.p 20 rfl (by kernel_rfl) (by kernel_rfl) (by kernel_rfl) rfl Ev.assign ?_
      refine Any.done (by kernel_rfl) ?_
      refine JC.reg ?_
      refine Seq.p rfl (by first | exact Ev.inc | exact Ev.add) ?_
      refine Seq.p rfl Ev.move ?_
      refine Seq.nil ?_
      exact ⟨i + 1, _, (show Part [bookC bk cap meet t.adr qa mb high seq, treeC nodeT t, levsC 1 L, .own lpT 1 (.slice Al M.length cl) M.length (M.flatMap levE), lvlL (.slice A48 (l ++ [lvlM lv]).length c48) (l ++ [lvlM lv])] _ from by repeat (first | exact Part.nil _ | refine Part.at (by repeat (first | exact At.z | apply At.s)) ?_)), ⟨by omega, A48, c48, l ++ [lvlM lv], hpi, Has.mk (by repeat (first | refine Off.upd ?_ rfl | exact Off.mix | refine Off.mix2 ?_ rfl | exact Off.refl)) (allLook_cons (by repeat (first | exact Look.here | apply Look.there (hne := rfl) | exact Look.const | apply Look.mix rfl | exact Look.arg0 | apply Look.args | exact Look.func)) (allLook_cons (by repeat (first | exact Look.here | apply Look.there (hne := rfl) | exact Look.const | apply Look.mix rfl | exact Look.arg0 | apply Look.args | exact Look.func)) allLook_nil)), rfl⟩, by omega⟩
    · -- else_t26
      have hie : i = M.length := by omega
      have hle : l = M.map lvlM := by rw [hl, hie, List.take_length]
      refine JC.exit ?_ -- 0
      refine JC.rs ?_
      refine Seq.p rfl Ev.move ?_
      refine Seq.p rfl Ev.assign ?_
      refine Seq.nil ?_
      refine JC.ret ?_
      show retQ _ _ _ _ _ _ _ _
      refine ret1 (H' := [bookC bk cap meet t.adr qa mb high seq, treeC nodeT t, levsC 1 L, lvlL (.slice A l.length c) l]) (hp := (by repeat (first | exact Part.nil _ | refine Part.at (by repeat (first | exact At.z | apply At.s)) ?_))) (hpost := ?_)
      rw [← hle]; exact ⟨A, c, rfl, rfl⟩
set_option maxHeartbeats 4000000 in
set_option maxRecDepth 100000 in
theorem tbDepth2 {w : World} {bk mb high seq most : Nat} {cap meet : Int} {qa : Option Addr} {t : Tr} {L : List LevA} (hm : 1 ≤ most) (ht : tieL t L) (hw : wfL L) (hsz : t.size ≤ 100000) (hO : Own w [bookC bk cap meet qa t.adr mb high seq, treeC nodeT t, levsC 2 L]) :
    Spec Go.Proofs.Try.prog 22 #[.pointer (some ⟨bk, 0, none⟩), .int .i64 2, .int .i64 (most : Int)] w [bookC bk cap meet qa t.adr mb high seq, treeC nodeT t, levsC 2 L]
      (fun u H' => ∃ A c, u = .slice A (((sideM 2 L).take most).map lvlM).length c ∧ H' = [bookC bk cap meet qa t.adr mb high seq, treeC nodeT t, levsC 2 L, lvlL (.slice A (((sideM 2 L).take most).map lvlM).length c) (((sideM 2 L).take most).map lvlM)]) := by
  have hts := tie_size ht
  obtain ⟨M, hM⟩ : ∃ M, M = (sideM 2 L).take most := ⟨_, rfl⟩
  have hMm : ∀ l ∈ M, l ∈ L := fun l hl => sideM_mem.1 (List.mem_of_mem_take (by rw [hM] at hl; exact hl))
  have hMl : M.length ≤ t.size := by rw [hM, List.length_take, sideM_len, hts]; omega
  have hlev := levV_2 ht most
  rw [← hM] at hlev
  rw [← hM]
  have hll : (M.flatMap levE).length = M.length := levE_len M
  refine Spec.enter (fn := Go.Proofs.Try.f22) (n := 51) [.pointer (some ⟨bk, 0, none⟩), .int .i64 2, .int .i64 (most : Int)] Go.Proofs.Try.func22 (by kernel_rfl) rfl Go.Proofs.Try.ntmps22 Go.Proofs.Try.results22 rfl hO ?_
  refine JC.rs ?_
  refine Seq.p rfl Ev.assign ?_
  refine Seq.nil ?_
  refine JC.seq ?_
  refine JC.rs ?_
  refine Seq.p rfl Ev.move ?_
  refine Seq.p rfl Ev.ne ?_
  refine Seq.p rfl Ev.move ?_
  refine Seq.andG (D := [12, 13, 14, 15]) (d := 12) (t := 15) (k := 3) (hn := fun h12 => ?_) (hx := ?_)
  · repeat (first | refine Seq.gn rfl rfl rfl rfl ?_ | refine Seq.gu rfl rfl rfl ?_)
    refine Seq.p rfl Ev.pickF ?_
    exact Seq.nil ⟨rfl, (by repeat (first | with_reducible exact Off.refl | refine Off.upd ?_ rfl | exact Off.mix | refine Off.mix2 ?_ rfl)), Look.here⟩
  apply Exists.intro
  refine ⟨fun h12 => ?_, fun u15 => ?_⟩
  · try simp only [decide_eq_true_eq, decide_eq_false_iff_not, Bool.and_eq_true, Bool.or_eq_true, Bool.not_eq_true', Bool.not_eq_false', Bool.or_eq_false_iff, Bool.and_eq_false_imp] at h12
    refine Seq.gy rfl rfl rfl ?_
    refine Seq.p rfl Ev.move ?_
    refine Seq.gy rfl rfl rfl ?_
    refine Seq.p rfl Ev.ne ?_
    refine Seq.p rfl Ev.pickT ?_
    exact Seq.nil ⟨rfl, (by repeat (first | with_reducible exact Off.refl | refine Off.upd ?_ rfl | exact Off.mix | refine Off.mix2 ?_ rfl)), Look.here⟩
  refine Seq.p rfl Ev.move ?_
  refine Seq.orG (D := [16, 17, 18, 19]) (d := 16) (t := 19) (k := 3) (hn := fun h16 => ?_) (hx := ?_)
  · repeat (first | refine Seq.gn rfl rfl rfl rfl ?_ | refine Seq.gu rfl rfl rfl ?_)
    refine Seq.p rfl Ev.pickT ?_
    exact Seq.nil ⟨rfl, (by repeat (first | with_reducible exact Off.refl | refine Off.upd ?_ rfl | exact Off.mix | refine Off.mix2 ?_ rfl)), Look.here⟩
  apply Exists.intro
  refine ⟨fun h16 => ?_, fun u19 => ?_⟩
  · try simp only [decide_eq_true_eq, decide_eq_false_iff_not, Bool.and_eq_true, Bool.or_eq_true, Bool.not_eq_true', Bool.not_eq_false', Bool.or_eq_false_iff, Bool.and_eq_false_imp] at h16
    refine Seq.gy rfl rfl rfl ?_
    refine Seq.p rfl Ev.move ?_
    refine Seq.gy rfl rfl rfl ?_
    refine Seq.p rfl Ev.lt ?_
    refine Seq.p rfl Ev.pickF ?_
    exact Seq.nil ⟨rfl, (by repeat (first | with_reducible exact Off.refl | refine Off.upd ?_ rfl | exact Off.mix | refine Off.mix2 ?_ rfl)), Look.here⟩
  refine Seq.nil ?_
  first | refine JC.c (ht := fun c19 => ?_) (hf := fun c19 => ?_) | refine JC.cb (ht := fun c19 => ?_) (hf := fun c19 => ?_)
  · -- then_t19
    exact absurd c19 (by simp; omega)
  · -- else_t19
    skip
    refine JC.skip ?_
    refine JC.rs ?_
    refine Seq.p rfl Ev.assign ?_
    refine Seq.re (fun w h => Upd.nilOwn h 66 3) ?_
    refine Seq.nil ?_
    refine JC.seq ?_
    refine JC.rs ?_
    refine Seq.p rfl Ev.move ?_
    refine Seq.p rfl Ev.move ?_
    refine Seq.p rfl Ev.move ?_
    refine Seq.call rfl (fun w' hw => tbLevels2 (tie_vals ht) hsz (Part.own (by repeat (first | exact Part.nil _ | refine Part.at (by repeat (first | exact At.z | apply At.s)) ?_)) hw.own)) (Gs := [bookC bk cap meet qa t.adr mb high seq, treeC nodeT t]) (F := _) (Perm.at (by repeat (first | exact At.z | apply At.s)) (Perm.at (by repeat (first | exact At.z | apply At.s)) (Perm.none _))) ?_
    rintro _ _ ⟨Al, cl, rfl, rfl⟩
    rw [show levVC Al cl (levV t.from0 most) = .own lpT 1 (.slice Al M.length cl) M.length (M.flatMap levE) by unfold levVC; rw [hlev, hll], hlev, hll]
    simp only [List.cons_append, List.nil_append, List.eraseIdx_cons_zero, List.eraseIdx_cons_succ]
    refine Seq.p rfl (Ev.lenH sl.sl_p_treebook_level) ?_
    refine Seq.p rfl Ev.move ?_
    refine Seq.nil ?_
    refine JC.blk ?_
    refine JC.re (H' := [bookC bk cap meet qa t.adr mb high seq, treeC nodeT t, levsC 2 L, .own lpT 1 (.slice Al M.length cl) M.length (M.flatMap levE), lvlL (.slice none 0 0) []]) (fun w hu => hu.part (by repeat (first | exact Part.nil _ | refine Part.at (by repeat (first | exact At.z | apply At.s)) ?_))) ?_
    refine JC.loop (α := Nat) (I := fun i e1 H1 => i ≤ M.length ∧ ∃ A c l, l = (M.take i).map lvlM ∧ Has [7, 9, 25, 26, 27, 28, 29, 30, 31, 32, 33, 34, 35, 36, 37, 38, 39, 40, 41, 42, 43, 44, 45, 46, 47, 48, 49] [(7, .slice A l.length c), (25, .int .i64 (i : Int))] _ e1 ∧ H1 = [bookC bk cap meet qa t.adr mb high seq, treeC nodeT t, levsC 2 L, .own lpT 1 (.slice Al M.length cl) M.length (M.flatMap levE), lvlL (.slice A l.length c) l]) (μ := fun i => M.length + 1 - i) 0 ⟨by omega, none, 0, [], by simp, Has.mk Off.refl (allLook_cons (by repeat (first | exact Look.here | apply Look.there (hne := rfl) | exact Look.const | apply Look.mix rfl | exact Look.arg0 | apply Look.args | exact Look.func)) (allLook_cons (by repeat (first | exact Look.here | apply Look.there (hne := rfl) | exact Look.const | apply Look.mix rfl | exact Look.arg0 | apply Look.args | exact Look.func)) allLook_nil)), rfl⟩ ?_
    rintro i _ _ ⟨hi, A, c, l, hl, ⟨u, rfl⟩, rfl⟩; dsimp only [setL]
    have hln : l.length = i := by rw [hl, List.length_map, List.length_take]; omega
    refine JC.rs ?_
    refine Seq.p rfl Ev.lt ?_
    refine Seq.nil ?_
    refine JC.seq ?_
    first | refine JC.c (ht := fun c26 => ?_) (hf := fun c26 => ?_) | refine JC.cb (ht := fun c26 => ?_) (hf := fun c26 => ?_)
    · -- then_t26
      have hi2 : i < M.length := by omega
      obtain ⟨lv, hlv⟩ : ∃ lv, lv = M[i]! := ⟨_, rfl⟩
      have hlm : lv ∈ L := hMm lv (by rw [hlv, getElem!_pos M i hi2]; exact List.getElem_mem hi2)
      obtain ⟨L1, L2, hLL⟩ := List.append_of_mem hlm
      obtain ⟨y1, ys, hys⟩ := List.exists_cons_of_ne_nil (hw lv hlm).1
      have hyp : y1.r.price = lv.price := (hw lv hlm).2 y1 (by rw [hys]; exact List.mem_cons_self)
      have hpi : l ++ [lvlM lv] = (M.take (i + 1)).map lvlM := by rw [hl, hlv, getElem!_pos M i hi2, ← List.take_append_getElem hi2, List.map_append]; rfl
      have hlo : ∀ {w0 w : World} {Cs F : List Chunk}, Upd w0 w Cs F → Part [levsC 2 L] F → Own w [levelC lv.a 2 lv.os] := fun hu hp => by
        have h0 := hp.own hu.own
        rw [hLL] at h0
        exact levs_level h0
      refine JC.skip ?_
      refine JC.seq ?_
      refine JC.blk ?_
      refine JC.rs ?_
      refine Seq.p rfl (Ev.iaN sl.sl_p_treebook_level (hr := RAt.own (enc := levE) (v := .slice Al M.length cl) (xs := M) (hs := by omega))) ?_
      refine Seq.p rfl (Ev.ldE1 sc.p_treebook_level (hr := RAt.own (enc := levE) (v := .slice Al M.length cl) (xs := M) (hs := by omega))) ?_
      rw [← hlv]
      refine Seq.p rfl Ev.assign ?_
      refine Seq.nil ?_
      refine JC.anyP (H0 := [bookC bk cap meet qa t.adr mb high seq, treeC nodeT t, levsC 2 L, .own lpT 1 (.slice Al M.length cl) M.length (M.flatMap levE)]) mixed (by repeat (first | exact Part.nil _ | refine Part.at (by repeat (first | exact At.z | apply At.s)) ?_)) ?_
      refine Any.p 0 rfl (by kernel_rfl) (by kernel_rfl) (by kernel_rfl) rfl Ev.move ?_
      refine Any.p 1 rfl (by kernel_rfl) (by kernel_rfl) (by kernel_rfl) rfl Ev.move ?_
      refine Any.p 2 rfl (by kernel_rfl) (by kernel_rfl) (by kernel_rfl) rfl Ev.nilP ?_
      refine Any.p 3 rfl (by kernel_rfl) (by kernel_rfl) (by kernel_rfl) rfl (Ev.faB fd.treebook_level_1 (bk := lv.a) (o := 0)) ?_
      refine Any.p 4 rfl (by kernel_rfl) (by kernel_rfl) (by kernel_rfl) rfl (Ev.ldS (v := .pointer (some ⟨y1.a, 0, none⟩)) sc.p_treebook_order (fun w hw => Cells.cell (w0 := w) (Cs := []) (H := []) (level_cell (off := 1) (side := 2) (hlo hw (by repeat (first | exact Part.nil _ | refine Part.at (by repeat (first | exact At.z | apply At.s)) ?_))) (by rw [hys]; rfl)) w (Upd.refl0 w))) ?_
      refine Any.p 5 rfl (by kernel_rfl) (by kernel_rfl) (by kernel_rfl) rfl Ev.nilP ?_
      refine Any.p 6 rfl (by kernel_rfl) (by kernel_rfl) (by kernel_rfl) rfl (Ev.faB fd.treebook_order_0 (bk := y1.a) (o := 0)) ?_
      refine Any.p 7 rfl (by kernel_rfl) (by kernel_rfl) (by kernel_rfl) rfl (Ev.faB fd.api_Resting_3 (bk := y1.a)) ?_
      refine Any.p 8 rfl (by kernel_rfl) (by kernel_rfl) (by kernel_rfl) rfl (Ev.ldS (v := .int .i64 lv.price) sc.int (fun w hw => Cells.cell (w0 := w) (Cs := []) (H := []) (order_cell (off := 3) (xs := []) (ys := ys) (o := y1) (by have h := hlo hw (by repeat (first | exact Part.nil _ | refine Part.at (by repeat (first | exact At.z | apply At.s)) ?_)); rw [hys] at h; exact h) (by rw [← hyp]; rfl)) w (Upd.refl0 w))) ?_
      refine Any.p 9 rfl (by kernel_rfl) (by kernel_rfl) (by kernel_rfl) rfl Ev.move ?_
      refine Any.p 10 rfl (by kernel_rfl) (by kernel_rfl) (by kernel_rfl) rfl Ev.nilP ?_
      refine Any.p 11 rfl (by kernel_rfl) (by kernel_rfl) (by kernel_rfl) rfl (Ev.faB fd.treebook_level_3 (bk := lv.a) (o := 0)) ?_
      refine Any.p 12 rfl (by kernel_rfl) (by kernel_rfl) (by kernel_rfl) rfl (Ev.ldS (v := .int .u64 (shownF lv.os : Int)) sc.uint64 (fun w hw => Cells.cell (w0 := w) (Cs := []) (H := []) (level_cell (side := 2) (hlo hw (by repeat (first | exact Part.nil _ | refine Part.at (by repeat (first | exact At.z | apply At.s)) ?_))) rfl) w (Upd.refl0 w))) ?_
      refine Any.p 13 rfl (by kernel_rfl) (by kernel_rfl) (by kernel_rfl) rfl Ev.move ?_
      refine Any.p 14 rfl (by kernel_rfl) (by kernel_rfl) (by kernel_rfl) rfl Ev.nilP ?_
      refine Any.p 15 rfl (by kernel_rfl) (by kernel_rfl) (by kernel_rfl) rfl (Ev.faB fd.treebook_level_4 (bk := lv.a) (o := 0)) ?_
      refine Any.p 16 rfl (by kernel_rfl) (by kernel_rfl) (by kernel_rfl) rfl (Ev.ldS (v := .int .i64 (lv.os.length : Int)) sc.int (fun w hw => Cells.cell (w0 := w) (Cs := []) (H := []) (level_cell (side := 2) (hlo hw (by repeat (first | exact Part.nil _ | refine Part.at (by repeat (first | exact At.z | apply At.s)) ?_))) rfl) w (Upd.refl0 w))) ?_
      refine Any.p 17 rfl (by kernel_rfl) (by kernel_rfl) (by kernel_rfl) rfl (Ev.buildN [_, _, _] pl.api_Level z.api_Level) ?_
      refine Any.one 18 rfl (by kernel_rfl) ?_
      refine Seq.buildSlN (lvlM lv).enc (hsl := sl.sl_api_Level) (hz := z.api_Level) (k := ?_); intro b47
      refine Seq.nil ⟨(by repeat (first | exact Part.nil _ | refine Part.at (by repeat (first | exact At.z | apply At.s)) ?_)), ?_⟩
      refine Any.one 19 rfl (by kernel_rfl) ?_
      refine Seq.append (j := 1) (hsl := sl.sl_api_Level) (he := el.api_Level) (hsrc := fun w' hw => Src.box (news := (lvlM lv).enc) sl.sl_api_Level (by repeat (first | exact At.z | apply At.s)) hw rfl (fun q u hu => hu)) (k := ?_); intro A48 c48
      rw [show l.length + 1 = (l ++ [lvlM lv]).length by simp, show l.flatMap Lvl.enc ++ (lvlM lv).enc = (l ++ [lvlM lv]).flatMap Lvl.enc by simp]
      refine Seq.nil ⟨(by repeat (first | exact Part.nil _ | refine Part.at (by repeat (first | exact At.z | apply At.s)) ?_)), ?_⟩
      refine Any.p 20 rfl (by kernel_rfl) (by kernel_rfl) (by kernel_rfl) rfl Ev.assign ?_
      refine Any.done (by kernel_rfl) ?_
      refine JC.reg ?_
      refine Seq.p rfl (by first | exact Ev.inc | exact Ev.add) ?_
      refine Seq.p rfl Ev.move ?_
      refine Seq.nil ?_
      exact ⟨i + 1, _, (show Part [bookC bk cap meet qa t.adr mb high seq, treeC nodeT t, levsC 2 L, .own lpT 1 (.slice Al M.length cl) M.length (M.flatMap levE), lvlL (.slice A48 (l ++ [lvlM lv]).length c48) (l ++ [lvlM lv])] _ from by repeat (first | exact Part.nil _ | refine Part.at (by repeat (first | exact At.z | apply At.s)) ?_)), ⟨by omega, A48, c48, l ++ [lvlM lv], hpi, Has.mk (by repeat (first | refine Off.upd ?_ rfl | exact Off.mix | refine Off.mix2 ?_ rfl | exact Off.refl)) (allLook_cons (by repeat (first | exact Look.here | apply Look.there (hne := rfl) | exact Look.const | apply Look.mix rfl | exact Look.arg0 | apply Look.args | exact Look.func)) (allLook_cons (by repeat (first | exact Look.here | apply Look.there (hne := rfl) | exact Look.const | apply Look.mix rfl | exact Look.arg0 | apply Look.args | exact Look.func)) allLook_nil)), rfl⟩, by omega⟩
    · -- else_t26
      have hie : i = M.length := by omega
      have hle : l = M.map lvlM := by rw [hl, hie, List.take_length]
      refine JC.exit ?_ -- 0
      refine JC.rs ?_
      refine Seq.p rfl Ev.move ?_
      refine Seq.p rfl Ev.assign ?_
      refine Seq.nil ?_
      refine JC.ret ?_
      show retQ _ _ _ _ _ _ _ _
      refine ret1 (H' := [bookC bk cap meet qa t.adr mb high seq, treeC nodeT t, levsC 2 L, lvlL (.slice A l.length c) l]) (hp := (by repeat (first | exact Part.nil _ | refine Part.at (by repeat (first | exact At.z | apply At.s)) ?_))) (hpost := ?_)
      rw [← hle]; exact ⟨A, c, rfl, rfl⟩
set_option maxHeartbeats 1000000 in
set_option maxRecDepth 100000 in
theorem tbDepthN {w : World} {bk : Nat} {q most : Int} (h : q ≠ 1 ∧ q ≠ 2 ∨ most < 1) :
    Spec Go.Proofs.Try.prog 22 #[.pointer (some ⟨bk, 0, none⟩), .int .i64 q, .int .i64 most] w [] (fun u _ => u = .slice none 0 0) := by
  refine Spec.enter (fn := Go.Proofs.Try.f22) (n := 51) [.pointer (some ⟨bk, 0, none⟩), .int .i64 q, .int .i64 most] Go.Proofs.Try.func22 (by kernel_rfl) rfl Go.Proofs.Try.ntmps22 Go.Proofs.Try.results22 rfl (Own.nil _) ?_
  refine JC.rs ?_
  refine Seq.p rfl Ev.assign ?_
  refine Seq.nil ?_
  refine JC.seq ?_
  refine JC.rs ?_
  refine Seq.p rfl Ev.move ?_
  refine Seq.p rfl Ev.ne ?_
  refine Seq.p rfl Ev.move ?_
  refine Seq.andG (D := [12, 13, 14, 15]) (d := 12) (t := 15) (k := 3) (hn := fun h12 => ?_) (hx := ?_)
  · repeat (first | refine Seq.gn rfl rfl rfl rfl ?_ | refine Seq.gu rfl rfl rfl ?_)
    refine Seq.p rfl Ev.pickF ?_
    exact Seq.nil ⟨rfl, (by repeat (first | with_reducible exact Off.refl | refine Off.upd ?_ rfl | exact Off.mix | refine Off.mix2 ?_ rfl)), Look.here⟩
  apply Exists.intro
  refine ⟨fun h12 => ?_, fun u15 => ?_⟩
  · try simp only [decide_eq_true_eq, decide_eq_false_iff_not, Bool.and_eq_true, Bool.or_eq_true, Bool.not_eq_true', Bool.not_eq_false', Bool.or_eq_false_iff, Bool.and_eq_false_imp] at h12
    refine Seq.gy rfl rfl rfl ?_
    refine Seq.p rfl Ev.move ?_
    refine Seq.gy rfl rfl rfl ?_
    refine Seq.p rfl Ev.ne ?_
    refine Seq.p rfl Ev.pickT ?_
    exact Seq.nil ⟨rfl, (by repeat (first | with_reducible exact Off.refl | refine Off.upd ?_ rfl | exact Off.mix | refine Off.mix2 ?_ rfl)), Look.here⟩
  refine Seq.p rfl Ev.move ?_
  refine Seq.orG (D := [16, 17, 18, 19]) (d := 16) (t := 19) (k := 3) (hn := fun h16 => ?_) (hx := ?_)
  · repeat (first | refine Seq.gn rfl rfl rfl rfl ?_ | refine Seq.gu rfl rfl rfl ?_)
    refine Seq.p rfl Ev.pickT ?_
    exact Seq.nil ⟨rfl, (by repeat (first | with_reducible exact Off.refl | refine Off.upd ?_ rfl | exact Off.mix | refine Off.mix2 ?_ rfl)), Look.here⟩
  apply Exists.intro
  refine ⟨fun h16 => ?_, fun u19 => ?_⟩
  · try simp only [decide_eq_true_eq, decide_eq_false_iff_not, Bool.and_eq_true, Bool.or_eq_true, Bool.not_eq_true', Bool.not_eq_false', Bool.or_eq_false_iff, Bool.and_eq_false_imp] at h16
    refine Seq.gy rfl rfl rfl ?_
    refine Seq.p rfl Ev.move ?_
    refine Seq.gy rfl rfl rfl ?_
    refine Seq.p rfl Ev.lt ?_
    refine Seq.p rfl Ev.pickF ?_
    exact Seq.nil ⟨rfl, (by repeat (first | with_reducible exact Off.refl | refine Off.upd ?_ rfl | exact Off.mix | refine Off.mix2 ?_ rfl)), Look.here⟩
  refine Seq.nil ?_
  first | refine JC.c (ht := fun c19 => ?_) (hf := fun c19 => ?_) | refine JC.cb (ht := fun c19 => ?_) (hf := fun c19 => ?_)
  · -- then_t19
    skip
    refine JC.rs ?_
    refine Seq.p rfl Ev.assign ?_
    refine Seq.nil ?_
    refine JC.ret ?_
    show retQ _ _ _ _ _ _ _ _
    refine ret1 (hp := Part.nil _) (hpost := ?_)
    rfl
  · -- else_t19
    exfalso; simp at c19; omega
end Go.Rx
/- The rules: what can be. -/
namespace Go.Rx
open Go Go.RowKit
set_option linter.unusedVariables false
set_option linter.unusedSimpArgs false
set_option maxHeartbeats 1000000 in
set_option maxRecDepth 100000 in
theorem rulesConfigured {w : World} {cap meet : Int} : Spec Go.Proofs.Try.prog 48 #[.agg #[.int .i64 cap, .int .i64 meet]] w [] (fun u _ => u = .bool (configF cap meet)) := by
  refine Spec.enter (fn := Go.Proofs.Try.f48) (n := 21) [.agg #[.int .i64 cap, .int .i64 meet]] Go.Proofs.Try.func48 (by kernel_rfl) rfl Go.Proofs.Try.ntmps48 Go.Proofs.Try.results48 rfl (Own.nil _) ?_
  refine JC.rs ?_
  refine Seq.box (cs := [_, _]) (k := ?_); intro b1
  refine Seq.p rfl Ev.assign ?_
  refine Seq.nil ?_
  refine JC.rs ?_
  refine Seq.p rfl (Ev.faB fd.api_Config_0) ?_
  refine Seq.p rfl (Ev.ldB sc.int) ?_
  refine Seq.p rfl Ev.ge ?_
  refine Seq.p rfl Ev.move ?_
  refine Seq.andG (D := [6, 7, 8, 9, 10]) (d := 6) (t := 10) (k := 4) (hn := fun h6 => ?_) (hx := ?_)
  · repeat (first | refine Seq.gn rfl rfl rfl rfl ?_ | refine Seq.gu rfl rfl rfl ?_)
    refine Seq.p rfl Ev.pickF ?_
    exact Seq.nil ⟨rfl, (by repeat (first | with_reducible exact Off.refl | refine Off.upd ?_ rfl | exact Off.mix | refine Off.mix2 ?_ rfl)), Look.here⟩
  apply Exists.intro
  refine ⟨fun h6 => ?_, fun u10 => ?_⟩
  · try simp only [decide_eq_true_eq, decide_eq_false_iff_not, Bool.and_eq_true, Bool.or_eq_true, Bool.not_eq_true', Bool.not_eq_false', Bool.or_eq_false_iff, Bool.and_eq_false_imp] at h6
    refine Seq.gy rfl rfl rfl ?_
    refine Seq.p rfl (Ev.faB fd.api_Config_0) ?_
    refine Seq.gy rfl rfl rfl ?_
    refine Seq.p rfl (Ev.ldB sc.int) ?_
    refine Seq.gy rfl rfl rfl ?_
    refine Seq.p rfl Ev.le ?_
    refine Seq.p rfl Ev.pickT ?_
    exact Seq.nil ⟨rfl, (by repeat (first | with_reducible exact Off.refl | refine Off.upd ?_ rfl | exact Off.mix | refine Off.mix2 ?_ rfl)), Look.here⟩
  refine Seq.p rfl Ev.move ?_
  refine Seq.andG (D := [11, 12, 13, 14, 15]) (d := 11) (t := 15) (k := 4) (hn := fun h11 => ?_) (hx := ?_)
  · repeat (first | refine Seq.gn rfl rfl rfl rfl ?_ | refine Seq.gu rfl rfl rfl ?_)
    refine Seq.p rfl Ev.pickF ?_
    exact Seq.nil ⟨rfl, (by repeat (first | with_reducible exact Off.refl | refine Off.upd ?_ rfl | exact Off.mix | refine Off.mix2 ?_ rfl)), Look.here⟩
  apply Exists.intro
  refine ⟨fun h11 => ?_, fun u15 => ?_⟩
  · try simp only [decide_eq_true_eq, decide_eq_false_iff_not, Bool.and_eq_true, Bool.or_eq_true, Bool.not_eq_true', Bool.not_eq_false', Bool.or_eq_false_iff, Bool.and_eq_false_imp] at h11
    refine Seq.gy rfl rfl rfl ?_
    refine Seq.p rfl (Ev.faB fd.api_Config_1) ?_
    refine Seq.gy rfl rfl rfl ?_
    refine Seq.p rfl (Ev.ldB sc.int) ?_
    refine Seq.gy rfl rfl rfl ?_
    refine Seq.p rfl Ev.ge ?_
    refine Seq.p rfl Ev.pickT ?_
    exact Seq.nil ⟨rfl, (by repeat (first | with_reducible exact Off.refl | refine Off.upd ?_ rfl | exact Off.mix | refine Off.mix2 ?_ rfl)), Look.here⟩
  refine Seq.p rfl Ev.move ?_
  refine Seq.andG (D := [16, 17, 18, 19, 20]) (d := 16) (t := 20) (k := 4) (hn := fun h16 => ?_) (hx := ?_)
  · repeat (first | refine Seq.gn rfl rfl rfl rfl ?_ | refine Seq.gu rfl rfl rfl ?_)
    refine Seq.p rfl Ev.pickF ?_
    exact Seq.nil ⟨rfl, (by repeat (first | with_reducible exact Off.refl | refine Off.upd ?_ rfl | exact Off.mix | refine Off.mix2 ?_ rfl)), Look.here⟩
  apply Exists.intro
  refine ⟨fun h16 => ?_, fun u20 => ?_⟩
  · try simp only [decide_eq_true_eq, decide_eq_false_iff_not, Bool.and_eq_true, Bool.or_eq_true, Bool.not_eq_true', Bool.not_eq_false', Bool.or_eq_false_iff, Bool.and_eq_false_imp] at h16
    refine Seq.gy rfl rfl rfl ?_
    refine Seq.p rfl (Ev.faB fd.api_Config_1) ?_
    refine Seq.gy rfl rfl rfl ?_
    refine Seq.p rfl (Ev.ldB sc.int) ?_
    refine Seq.gy rfl rfl rfl ?_
    refine Seq.p rfl Ev.le ?_
    refine Seq.p rfl Ev.pickT ?_
    exact Seq.nil ⟨rfl, (by repeat (first | with_reducible exact Off.refl | refine Off.upd ?_ rfl | exact Off.mix | refine Off.mix2 ?_ rfl)), Look.here⟩
  refine Seq.p rfl Ev.assign ?_
  refine Seq.nil ?_
  refine JC.ret ?_
  show retQ _ _ _ _ _ _ _ _
  refine ret1 (hp := Part.nil _) (hpost := ?_)
  simp [configF, Bool.decide_and, Bool.and_assoc]
set_option maxHeartbeats 1000000 in
set_option maxRecDepth 100000 in
theorem rulesBetter {w : World} {s p q : Int} : Spec Go.Proofs.Try.prog 50 #[.int .i64 s, .int .i64 p, .int .i64 q] w [] (fun u _ => u = .bool (betterF s p q)) := by
  refine Spec.enter (fn := Go.Proofs.Try.f50) (n := 15) [.int .i64 s, .int .i64 p, .int .i64 q] Go.Proofs.Try.func50 (by kernel_rfl) rfl Go.Proofs.Try.ntmps50 Go.Proofs.Try.results50 rfl (Own.nil _) ?_
  refine JC.rs ?_
  refine Seq.p rfl Ev.assign ?_
  refine Seq.nil ?_
  refine JC.seq ?_
  refine JC.rs ?_
  refine Seq.p rfl Ev.move ?_
  refine Seq.p rfl Ev.eq ?_
  refine Seq.nil ?_
  first | refine JC.c (ht := fun c8 => ?_) (hf := fun c8 => ?_) | refine JC.cb (ht := fun c8 => ?_) (hf := fun c8 => ?_)
  · -- then_t8
    refine JC.rs ?_
    refine Seq.p rfl Ev.move ?_
    refine Seq.p rfl Ev.move ?_
    refine Seq.p rfl Ev.gt ?_
    refine Seq.p rfl Ev.assign ?_
    refine Seq.nil ?_
    refine JC.ret ?_
    show retQ _ _ _ _ _ _ _ _
    refine ret1 (hp := Part.nil _) (hpost := ?_)
    simp [betterF, *]
  · -- else_t8
    refine JC.skip ?_
    refine JC.rs ?_
    refine Seq.p rfl Ev.move ?_
    refine Seq.p rfl Ev.move ?_
    refine Seq.p rfl Ev.lt ?_
    refine Seq.p rfl Ev.assign ?_
    refine Seq.nil ?_
    refine JC.ret ?_
    show retQ _ _ _ _ _ _ _ _
    refine ret1 (hp := Part.nil _) (hpost := ?_)
    simp [betterF, *]
def minMax (o : Rst) : Nat := if 4294967295 < o.peak then 4294967295 else o.peak
set_option maxHeartbeats 4000000 in
set_option maxRecDepth 100000 in
theorem rulesCanRest {w : World} {o : Rst} {high : Nat} (ho : o.fits) : Spec Go.Proofs.Try.prog 49 #[.agg o.enc.toArray, .int .u64 (high : Int)] w [] (fun u _ => u = .bool (orderF o high)) := by
  obtain ⟨h1, h2, h3, h4, h5⟩ := ho
  obtain ⟨m, hm⟩ : ∃ m, m = minMax o := ⟨_, rfl⟩
  have hmb : m ≤ 4294967295 ∧ (o.peak ≤ 4294967295 → m = o.peak) := by rw [hm, minMax]; split <;> omega
  refine Spec.enter (fn := Go.Proofs.Try.f49) (n := 93) [.agg o.enc.toArray, .int .u64 (high : Int)] Go.Proofs.Try.func49 (by kernel_rfl) rfl Go.Proofs.Try.ntmps49 Go.Proofs.Try.results49 rfl (Own.nil _) ?_
  refine JC.rs ?_
  refine Seq.box (cs := [_, _, _, _, _, _, _]) (k := ?_); intro b2
  refine Seq.p rfl Ev.assign ?_
  refine Seq.nil ?_
  refine JC.rs ?_
  refine Seq.p rfl (Ev.faB fd.api_Resting_6) ?_
  refine Seq.p rfl (Ev.ldB sc.uint64) ?_
  refine Seq.p rfl Ev.eq ?_
  refine Seq.p rfl Ev.move ?_
  refine Seq.andG (D := [9, 10, 11, 12, 13]) (d := 9) (t := 13) (k := 4) (hn := fun h9 => ?_) (hx := ?_)
  · repeat (first | refine Seq.gn rfl rfl rfl rfl ?_ | refine Seq.gu rfl rfl rfl ?_)
    refine Seq.p rfl Ev.pickF ?_
    exact Seq.nil ⟨rfl, (by repeat (first | with_reducible exact Off.refl | refine Off.upd ?_ rfl | exact Off.mix | refine Off.mix2 ?_ rfl)), Look.here⟩
  apply Exists.intro
  refine ⟨fun h9 => ?_, fun u13 => ?_⟩
  · try simp only [decide_eq_true_eq, decide_eq_false_iff_not, Bool.and_eq_true, Bool.or_eq_true, Bool.not_eq_true', Bool.not_eq_false', Bool.or_eq_false_iff, Bool.and_eq_false_imp] at h9
    refine Seq.gy rfl rfl rfl ?_
    refine Seq.p rfl (Ev.faB fd.api_Resting_5) ?_
    refine Seq.gy rfl rfl rfl ?_
    refine Seq.p rfl (Ev.ldB sc.uint64) ?_
    refine Seq.gy rfl rfl rfl ?_
    refine Seq.p rfl Ev.eq ?_
    refine Seq.p rfl Ev.pickT ?_
    exact Seq.nil ⟨rfl, (by repeat (first | with_reducible exact Off.refl | refine Off.upd ?_ rfl | exact Off.mix | refine Off.mix2 ?_ rfl)), Look.here⟩
  refine Seq.p rfl Ev.move ?_
  refine Seq.orG (D := [14, 15, 16, 17, 18, 19, 20, 21, 22, 23, 24, 25, 26, 27, 28, 29, 30, 31, 32, 33, 34, 35, 36, 37]) (d := 14) (t := 37) (k := 23) (hn := fun h14 => ?_) (hx := ?_)
  · repeat (first | refine Seq.gn rfl rfl rfl rfl ?_ | refine Seq.gu rfl rfl rfl ?_)
    refine Seq.p rfl Ev.pickT ?_
    exact Seq.nil ⟨rfl, (by repeat (first | with_reducible exact Off.refl | refine Off.upd ?_ rfl | exact Off.mix | refine Off.mix2 ?_ rfl)), Look.here⟩
  apply Exists.intro
  refine ⟨fun h14 => ?_, fun u37 => ?_⟩
  · try simp only [decide_eq_true_eq, decide_eq_false_iff_not, Bool.and_eq_true, Bool.or_eq_true, Bool.not_eq_true', Bool.not_eq_false', Bool.or_eq_false_iff, Bool.and_eq_false_imp] at h14
    refine Seq.gy rfl rfl rfl ?_
    refine Seq.p rfl (Ev.faB fd.api_Resting_6) ?_
    refine Seq.gy rfl rfl rfl ?_
    refine Seq.p rfl (Ev.ldB sc.uint64) ?_
    refine Seq.gy rfl rfl rfl ?_
    refine Seq.p rfl Ev.gt ?_
    refine Seq.gy rfl rfl rfl ?_
    refine Seq.p rfl Ev.move ?_
    refine Seq.andG (D := [18, 19, 20, 21, 22, 23, 24]) (d := 18) (t := 24) (k := 6) (hn := fun h18 => ?_) (hx := ?_)
    · repeat (first | refine Seq.gn rfl rfl rfl rfl ?_ | refine Seq.gu rfl rfl rfl ?_)
      refine Seq.gy rfl rfl rfl ?_
      refine Seq.p rfl Ev.pickF ?_
      exact Seq.nil ⟨rfl, (by repeat (first | with_reducible exact Off.refl | refine Off.upd ?_ rfl | exact Off.mix | refine Off.mix2 ?_ rfl)), Look.here⟩
    apply Exists.intro
    refine ⟨fun h18 => ?_, fun u24 => ?_⟩
    · try simp only [decide_eq_true_eq, decide_eq_false_iff_not, Bool.and_eq_true, Bool.or_eq_true, Bool.not_eq_true', Bool.not_eq_false', Bool.or_eq_false_iff, Bool.and_eq_false_imp] at h18
      refine Seq.gy rfl rfl rfl ?_
      refine Seq.p rfl (Ev.faB fd.api_Resting_4) ?_
      refine Seq.gy rfl rfl rfl ?_
      refine Seq.p rfl (Ev.ldB sc.uint64) ?_
      refine Seq.gy rfl rfl rfl ?_
      refine Seq.p rfl (Ev.faB fd.api_Resting_6) ?_
      refine Seq.gy rfl rfl rfl ?_
      refine Seq.p rfl (Ev.ldB sc.uint64) ?_
      refine Seq.gy rfl rfl rfl ?_
      refine Seq.p rfl Ev.le ?_
      refine Seq.gy rfl rfl rfl ?_
      refine Seq.p rfl Ev.pickT ?_
      exact Seq.nil ⟨rfl, (by repeat (first | with_reducible exact Off.refl | refine Off.upd ?_ rfl | exact Off.mix | refine Off.mix2 ?_ rfl)), Look.here⟩
    refine Seq.gy rfl rfl rfl ?_
    refine Seq.p rfl Ev.move ?_
    refine Seq.andG (D := [25, 26, 27, 28, 29, 30, 31, 32, 33, 34, 35, 36]) (d := 25) (t := 36) (k := 11) (hn := fun h25 => ?_) (hx := ?_)
    · repeat (first | refine Seq.gn rfl rfl rfl rfl ?_ | refine Seq.gu rfl rfl rfl ?_)
      refine Seq.gy rfl rfl rfl ?_
      refine Seq.p rfl Ev.pickF ?_
      exact Seq.nil ⟨rfl, (by repeat (first | with_reducible exact Off.refl | refine Off.upd ?_ rfl | exact Off.mix | refine Off.mix2 ?_ rfl)), Look.here⟩
    apply Exists.intro
    refine ⟨fun h25 => ?_, fun u36 => ?_⟩
    · try simp only [decide_eq_true_eq, decide_eq_false_iff_not, Bool.and_eq_true, Bool.or_eq_true, Bool.not_eq_true', Bool.not_eq_false', Bool.or_eq_false_iff, Bool.and_eq_false_imp] at h25
      refine Seq.gy rfl rfl rfl ?_
      refine Seq.p rfl (Ev.faB fd.api_Resting_5) ?_
      refine Seq.gy rfl rfl rfl ?_
      refine Seq.p rfl (Ev.ldB sc.uint64) ?_
      refine Seq.gy rfl rfl rfl ?_
      refine Seq.p rfl (Ev.faB fd.api_Resting_6) ?_
      refine Seq.gy rfl rfl rfl ?_
      refine Seq.p rfl (Ev.ldB sc.uint64) ?_
      refine Seq.gy rfl rfl rfl ?_
      refine Seq.p rfl (Ev.as (v := .int .u64 (if (4294967295 : Int) < (o.peak : Int) then 4294967295 else (o.peak : Int))) (v' := .int .u64 (m : Int)) (by rw [hm, minMax]; congr 1; split <;> (split <;> omega)) (Ev.min (ts := [31, 31]))) ?_
      refine Seq.gy rfl rfl rfl ?_
      refine Seq.p rfl (Ev.mulNU (a := 256) (b := m)) ?_
      refine Seq.gy rfl rfl rfl ?_
      refine Seq.p rfl (Ev.faB fd.api_Resting_4) ?_
      refine Seq.gy rfl rfl rfl ?_
      refine Seq.p rfl (Ev.ldB sc.uint64) ?_
      refine Seq.gy rfl rfl rfl ?_
      refine Seq.p rfl (Ev.subU (a := ((256 * m : Nat) : Int)) (b := (o.vis : Int))) ?_
      refine Seq.gy rfl rfl rfl ?_
      refine Seq.p rfl Ev.le ?_
      refine Seq.gy rfl rfl rfl ?_
      refine Seq.p rfl Ev.pickT ?_
      exact Seq.nil ⟨rfl, (by repeat (first | with_reducible exact Off.refl | refine Off.upd ?_ rfl | exact Off.mix | refine Off.mix2 ?_ rfl)), Look.here⟩
    refine Seq.p rfl Ev.pickF ?_
    exact Seq.nil ⟨rfl, (by repeat (first | with_reducible exact Off.refl | refine Off.upd ?_ rfl | exact Off.mix | refine Off.mix2 ?_ rfl)), Look.here⟩
  refine Seq.p rfl Ev.assign ?_
  refine Seq.nil ?_
  refine JC.rs ?_
  refine Seq.p rfl (Ev.faB fd.api_Resting_0) ?_
  refine Seq.p rfl (Ev.ldB sc.uint64) ?_
  refine Seq.p rfl Ev.ge ?_
  refine Seq.p rfl Ev.move ?_
  refine Seq.andG (D := [41, 42, 43, 44, 45, 46]) (d := 41) (t := 46) (k := 5) (hn := fun h41 => ?_) (hx := ?_)
  · repeat (first | refine Seq.gn rfl rfl rfl rfl ?_ | refine Seq.gu rfl rfl rfl ?_)
    refine Seq.p rfl Ev.pickF ?_
    exact Seq.nil ⟨rfl, (by repeat (first | with_reducible exact Off.refl | refine Off.upd ?_ rfl | exact Off.mix | refine Off.mix2 ?_ rfl)), Look.here⟩
  apply Exists.intro
  refine ⟨fun h41 => ?_, fun u46 => ?_⟩
  · try simp only [decide_eq_true_eq, decide_eq_false_iff_not, Bool.and_eq_true, Bool.or_eq_true, Bool.not_eq_true', Bool.not_eq_false', Bool.or_eq_false_iff, Bool.and_eq_false_imp] at h41
    refine Seq.gy rfl rfl rfl ?_
    refine Seq.p rfl (Ev.faB fd.api_Resting_0) ?_
    refine Seq.gy rfl rfl rfl ?_
    refine Seq.p rfl (Ev.ldB sc.uint64) ?_
    refine Seq.gy rfl rfl rfl ?_
    refine Seq.p rfl Ev.move ?_
    refine Seq.gy rfl rfl rfl ?_
    refine Seq.p rfl Ev.le ?_
    refine Seq.p rfl Ev.pickT ?_
    exact Seq.nil ⟨rfl, (by repeat (first | with_reducible exact Off.refl | refine Off.upd ?_ rfl | exact Off.mix | refine Off.mix2 ?_ rfl)), Look.here⟩
  refine Seq.p rfl Ev.move ?_
  refine Seq.andG (D := [47, 48, 49, 50, 51, 52, 53, 54, 55, 56]) (d := 47) (t := 56) (k := 9) (hn := fun h47 => ?_) (hx := ?_)
  · repeat (first | refine Seq.gn rfl rfl rfl rfl ?_ | refine Seq.gu rfl rfl rfl ?_)
    refine Seq.p rfl Ev.pickF ?_
    exact Seq.nil ⟨rfl, (by repeat (first | with_reducible exact Off.refl | refine Off.upd ?_ rfl | exact Off.mix | refine Off.mix2 ?_ rfl)), Look.here⟩
  apply Exists.intro
  refine ⟨fun h47 => ?_, fun u56 => ?_⟩
  · try simp only [decide_eq_true_eq, decide_eq_false_iff_not, Bool.and_eq_true, Bool.or_eq_true, Bool.not_eq_true', Bool.not_eq_false', Bool.or_eq_false_iff, Bool.and_eq_false_imp] at h47
    refine Seq.gy rfl rfl rfl ?_
    refine Seq.p rfl (Ev.faB fd.api_Resting_2) ?_
    refine Seq.gy rfl rfl rfl ?_
    refine Seq.p rfl (Ev.ldB sc.int) ?_
    refine Seq.gy rfl rfl rfl ?_
    refine Seq.p rfl Ev.eq ?_
    refine Seq.gy rfl rfl rfl ?_
    refine Seq.p rfl Ev.move ?_
    refine Seq.orG (D := [51, 52, 53, 54, 55]) (d := 51) (t := 55) (k := 4) (hn := fun h51 => ?_) (hx := ?_)
    · repeat (first | refine Seq.gn rfl rfl rfl rfl ?_ | refine Seq.gu rfl rfl rfl ?_)
      refine Seq.gy rfl rfl rfl ?_
      refine Seq.p rfl Ev.pickT ?_
      exact Seq.nil ⟨rfl, (by repeat (first | with_reducible exact Off.refl | refine Off.upd ?_ rfl | exact Off.mix | refine Off.mix2 ?_ rfl)), Look.here⟩
    apply Exists.intro
    refine ⟨fun h51 => ?_, fun u55 => ?_⟩
    · try simp only [decide_eq_true_eq, decide_eq_false_iff_not, Bool.and_eq_true, Bool.or_eq_true, Bool.not_eq_true', Bool.not_eq_false', Bool.or_eq_false_iff, Bool.and_eq_false_imp] at h51
      refine Seq.gy rfl rfl rfl ?_
      refine Seq.p rfl (Ev.faB fd.api_Resting_2) ?_
      refine Seq.gy rfl rfl rfl ?_
      refine Seq.p rfl (Ev.ldB sc.int) ?_
      refine Seq.gy rfl rfl rfl ?_
      refine Seq.p rfl Ev.eq ?_
      refine Seq.gy rfl rfl rfl ?_
      refine Seq.p rfl Ev.pickF ?_
      exact Seq.nil ⟨rfl, (by repeat (first | with_reducible exact Off.refl | refine Off.upd ?_ rfl | exact Off.mix | refine Off.mix2 ?_ rfl)), Look.here⟩
    refine Seq.p rfl Ev.pickT ?_
    exact Seq.nil ⟨rfl, (by repeat (first | with_reducible exact Off.refl | refine Off.upd ?_ rfl | exact Off.mix | refine Off.mix2 ?_ rfl)), Look.here⟩
  refine Seq.p rfl Ev.move ?_
  refine Seq.andG (D := [57, 58, 59, 60, 61]) (d := 57) (t := 61) (k := 4) (hn := fun h57 => ?_) (hx := ?_)
  · repeat (first | refine Seq.gn rfl rfl rfl rfl ?_ | refine Seq.gu rfl rfl rfl ?_)
    refine Seq.p rfl Ev.pickF ?_
    exact Seq.nil ⟨rfl, (by repeat (first | with_reducible exact Off.refl | refine Off.upd ?_ rfl | exact Off.mix | refine Off.mix2 ?_ rfl)), Look.here⟩
  apply Exists.intro
  refine ⟨fun h57 => ?_, fun u61 => ?_⟩
  · try simp only [decide_eq_true_eq, decide_eq_false_iff_not, Bool.and_eq_true, Bool.or_eq_true, Bool.not_eq_true', Bool.not_eq_false', Bool.or_eq_false_iff, Bool.and_eq_false_imp] at h57
    refine Seq.gy rfl rfl rfl ?_
    refine Seq.p rfl (Ev.faB fd.api_Resting_3) ?_
    refine Seq.gy rfl rfl rfl ?_
    refine Seq.p rfl (Ev.ldB sc.int) ?_
    refine Seq.gy rfl rfl rfl ?_
    refine Seq.p rfl Ev.ge ?_
    refine Seq.p rfl Ev.pickT ?_
    exact Seq.nil ⟨rfl, (by repeat (first | with_reducible exact Off.refl | refine Off.upd ?_ rfl | exact Off.mix | refine Off.mix2 ?_ rfl)), Look.here⟩
  refine Seq.p rfl Ev.move ?_
  refine Seq.andG (D := [62, 63, 64, 65, 66]) (d := 62) (t := 66) (k := 4) (hn := fun h62 => ?_) (hx := ?_)
  · repeat (first | refine Seq.gn rfl rfl rfl rfl ?_ | refine Seq.gu rfl rfl rfl ?_)
    refine Seq.p rfl Ev.pickF ?_
    exact Seq.nil ⟨rfl, (by repeat (first | with_reducible exact Off.refl | refine Off.upd ?_ rfl | exact Off.mix | refine Off.mix2 ?_ rfl)), Look.here⟩
  apply Exists.intro
  refine ⟨fun h62 => ?_, fun u66 => ?_⟩
  · try simp only [decide_eq_true_eq, decide_eq_false_iff_not, Bool.and_eq_true, Bool.or_eq_true, Bool.not_eq_true', Bool.not_eq_false', Bool.or_eq_false_iff, Bool.and_eq_false_imp] at h62
    refine Seq.gy rfl rfl rfl ?_
    refine Seq.p rfl (Ev.faB fd.api_Resting_3) ?_
    refine Seq.gy rfl rfl rfl ?_
    refine Seq.p rfl (Ev.ldB sc.int) ?_
    refine Seq.gy rfl rfl rfl ?_
    refine Seq.p rfl Ev.lt ?_
    refine Seq.p rfl Ev.pickT ?_
    exact Seq.nil ⟨rfl, (by repeat (first | with_reducible exact Off.refl | refine Off.upd ?_ rfl | exact Off.mix | refine Off.mix2 ?_ rfl)), Look.here⟩
  refine Seq.p rfl Ev.move ?_
  refine Seq.andG (D := [67, 68, 69, 70, 71]) (d := 67) (t := 71) (k := 4) (hn := fun h67 => ?_) (hx := ?_)
  · repeat (first | refine Seq.gn rfl rfl rfl rfl ?_ | refine Seq.gu rfl rfl rfl ?_)
    refine Seq.p rfl Ev.pickF ?_
    exact Seq.nil ⟨rfl, (by repeat (first | with_reducible exact Off.refl | refine Off.upd ?_ rfl | exact Off.mix | refine Off.mix2 ?_ rfl)), Look.here⟩
  apply Exists.intro
  refine ⟨fun h67 => ?_, fun u71 => ?_⟩
  · try simp only [decide_eq_true_eq, decide_eq_false_iff_not, Bool.and_eq_true, Bool.or_eq_true, Bool.not_eq_true', Bool.not_eq_false', Bool.or_eq_false_iff, Bool.and_eq_false_imp] at h67
    refine Seq.gy rfl rfl rfl ?_
    refine Seq.p rfl (Ev.faB fd.api_Resting_4) ?_
    refine Seq.gy rfl rfl rfl ?_
    refine Seq.p rfl (Ev.ldB sc.uint64) ?_
    refine Seq.gy rfl rfl rfl ?_
    refine Seq.p rfl Ev.ge ?_
    refine Seq.p rfl Ev.pickT ?_
    exact Seq.nil ⟨rfl, (by repeat (first | with_reducible exact Off.refl | refine Off.upd ?_ rfl | exact Off.mix | refine Off.mix2 ?_ rfl)), Look.here⟩
  refine Seq.p rfl Ev.move ?_
  refine Seq.andG (D := [72, 73, 74, 75, 76]) (d := 72) (t := 76) (k := 4) (hn := fun h72 => ?_) (hx := ?_)
  · repeat (first | refine Seq.gn rfl rfl rfl rfl ?_ | refine Seq.gu rfl rfl rfl ?_)
    refine Seq.p rfl Ev.pickF ?_
    exact Seq.nil ⟨rfl, (by repeat (first | with_reducible exact Off.refl | refine Off.upd ?_ rfl | exact Off.mix | refine Off.mix2 ?_ rfl)), Look.here⟩
  apply Exists.intro
  refine ⟨fun h72 => ?_, fun u76 => ?_⟩
  · try simp only [decide_eq_true_eq, decide_eq_false_iff_not, Bool.and_eq_true, Bool.or_eq_true, Bool.not_eq_true', Bool.not_eq_false', Bool.or_eq_false_iff, Bool.and_eq_false_imp] at h72
    refine Seq.gy rfl rfl rfl ?_
    refine Seq.p rfl (Ev.faB fd.api_Resting_4) ?_
    refine Seq.gy rfl rfl rfl ?_
    refine Seq.p rfl (Ev.ldB sc.uint64) ?_
    refine Seq.gy rfl rfl rfl ?_
    refine Seq.p rfl Ev.le ?_
    refine Seq.p rfl Ev.pickT ?_
    exact Seq.nil ⟨rfl, (by repeat (first | with_reducible exact Off.refl | refine Off.upd ?_ rfl | exact Off.mix | refine Off.mix2 ?_ rfl)), Look.here⟩
  refine Seq.p rfl Ev.move ?_
  refine Seq.andG (D := [77, 78, 79, 80, 81]) (d := 77) (t := 81) (k := 4) (hn := fun h77 => ?_) (hx := ?_)
  · repeat (first | refine Seq.gn rfl rfl rfl rfl ?_ | refine Seq.gu rfl rfl rfl ?_)
    refine Seq.p rfl Ev.pickF ?_
    exact Seq.nil ⟨rfl, (by repeat (first | with_reducible exact Off.refl | refine Off.upd ?_ rfl | exact Off.mix | refine Off.mix2 ?_ rfl)), Look.here⟩
  apply Exists.intro
  refine ⟨fun h77 => ?_, fun u81 => ?_⟩
  · try simp only [decide_eq_true_eq, decide_eq_false_iff_not, Bool.and_eq_true, Bool.or_eq_true, Bool.not_eq_true', Bool.not_eq_false', Bool.or_eq_false_iff, Bool.and_eq_false_imp] at h77
    refine Seq.gy rfl rfl rfl ?_
    refine Seq.p rfl (Ev.faB fd.api_Resting_6) ?_
    refine Seq.gy rfl rfl rfl ?_
    refine Seq.p rfl (Ev.ldB sc.uint64) ?_
    refine Seq.gy rfl rfl rfl ?_
    refine Seq.p rfl Ev.le ?_
    refine Seq.p rfl Ev.pickT ?_
    exact Seq.nil ⟨rfl, (by repeat (first | with_reducible exact Off.refl | refine Off.upd ?_ rfl | exact Off.mix | refine Off.mix2 ?_ rfl)), Look.here⟩
  refine Seq.p rfl Ev.move ?_
  refine Seq.andG (D := [82, 83, 84, 85, 86, 87, 88, 89]) (d := 82) (t := 89) (k := 7) (hn := fun h82 => ?_) (hx := ?_)
  · repeat (first | refine Seq.gn rfl rfl rfl rfl ?_ | refine Seq.gu rfl rfl rfl ?_)
    refine Seq.p rfl Ev.pickF ?_
    exact Seq.nil ⟨rfl, (by repeat (first | with_reducible exact Off.refl | refine Off.upd ?_ rfl | exact Off.mix | refine Off.mix2 ?_ rfl)), Look.here⟩
  apply Exists.intro
  refine ⟨fun h82 => ?_, fun u89 => ?_⟩
  · try simp only [decide_eq_true_eq, decide_eq_false_iff_not, Bool.and_eq_true, Bool.or_eq_true, Bool.not_eq_true', Bool.not_eq_false', Bool.or_eq_false_iff, Bool.and_eq_false_imp] at h82
    refine Seq.gy rfl rfl rfl ?_
    refine Seq.p rfl (Ev.faB fd.api_Resting_5) ?_
    refine Seq.gy rfl rfl rfl ?_
    refine Seq.p rfl (Ev.ldB sc.uint64) ?_
    refine Seq.gy rfl rfl rfl ?_
    refine Seq.p rfl (Ev.faB fd.api_Resting_4) ?_
    refine Seq.gy rfl rfl rfl ?_
    refine Seq.p rfl (Ev.ldB sc.uint64) ?_
    refine Seq.gy rfl rfl rfl ?_
    refine Seq.p rfl Ev.subU ?_
    refine Seq.gy rfl rfl rfl ?_
    refine Seq.p rfl Ev.le ?_
    refine Seq.p rfl Ev.pickT ?_
    exact Seq.nil ⟨rfl, (by repeat (first | with_reducible exact Off.refl | refine Off.upd ?_ rfl | exact Off.mix | refine Off.mix2 ?_ rfl)), Look.here⟩
  refine Seq.p rfl Ev.move ?_
  refine Seq.andG (D := [90, 91, 92]) (d := 90) (t := 92) (k := 2) (hn := fun h90 => ?_) (hx := ?_)
  · repeat (first | refine Seq.gn rfl rfl rfl rfl ?_ | refine Seq.gu rfl rfl rfl ?_)
    refine Seq.p rfl Ev.pickF ?_
    exact Seq.nil ⟨rfl, (by repeat (first | with_reducible exact Off.refl | refine Off.upd ?_ rfl | exact Off.mix | refine Off.mix2 ?_ rfl)), Look.here⟩
  apply Exists.intro
  refine ⟨fun h90 => ?_, fun u92 => ?_⟩
  · try simp only [decide_eq_true_eq, decide_eq_false_iff_not, Bool.and_eq_true, Bool.or_eq_true, Bool.not_eq_true', Bool.not_eq_false', Bool.or_eq_false_iff, Bool.and_eq_false_imp] at h90
    refine Seq.gy rfl rfl rfl ?_
    refine Seq.p rfl Ev.move ?_
    refine Seq.p rfl Ev.pickT ?_
    exact Seq.nil ⟨rfl, (by repeat (first | with_reducible exact Off.refl | refine Off.upd ?_ rfl | exact Off.mix | refine Off.mix2 ?_ rfl)), Look.here⟩
  refine Seq.p rfl Ev.assign ?_
  refine Seq.nil ?_
  refine JC.ret ?_
  show retQ _ _ _ _ _ _ _ _
  refine ret1 (hp := Part.nil _) (hpost := ?_)
  refine congrArg Value.bool ?_
  unfold orderF
  rw [Bool.eq_iff_iff]
  simp only [Bool.and_eq_true, Bool.or_eq_true, decide_eq_true_eq]
  by_cases hp : o.peak = 0
  · rw [if_pos hp]; omega
  · rw [if_neg hp]; omega
end Go.Rx
/- The rules: whether there can be a book. (printed by gen_oy6.py) -/
namespace Go.Rx
open Go Go.RowKit
set_option linter.unusedVariables false
set_option linter.unusedSimpArgs false
def seenL (l : List Rst) : List (Int × Value) := l.map fun r => ((r.id : Int), Value.bool true)
theorem seen_get (l : List Rst) (id : Nat) : (aget (seenL l) (id : Int)).getD (.bool false) = .bool (decide (id ∈ l.map fun r => r.id)) := by
  induction l with
  | nil => rfl
  | cons r l ih =>
    show (if (id : Int) = (r.id : Int) then some (Value.bool true) else aget (seenL l) (id : Int)).getD (.bool false) = _
    by_cases h : id = r.id
    · rw [if_pos (by omega)]; simp [h]
    · rw [if_neg (by omega), ih]; simp [h]
theorem seen_put (l : List Rst) (r : Rst) (h : r.id ∉ l.map fun r => r.id) : aput (seenL l) (r.id : Int) (.bool true) = seenL (l ++ [r]) := by
  rw [aput_perm]
  · simp [seenL]
  · intro hm
    rw [seenL, List.map_map] at hm
    obtain ⟨x, hx, e⟩ := List.mem_map.1 hm
    exact h (List.mem_map.2 ⟨x, hx, by have e2 : (x.id : Int) = (r.id : Int) := e; omega⟩)
theorem once_nodup {l : List Rst} : onceP l ↔ (l.map fun r => r.id).Nodup := by
  unfold onceP
  rw [List.nodup_iff_pairwise_ne, List.pairwise_map, List.pairwise_iff_getElem]
  constructor
  · intro h i j hi hj hij e
    have := h j hj i hij
    rw [getElem!_pos l j hj, getElem!_pos l i hi] at this
    exact this e.symm
  · intro h i hi j hj e
    rw [getElem!_pos l i hi, getElem!_pos l j (by omega)] at e
    exact h j i (by omega) hi hj e.symm
theorem take_next {l : List Rst} {i : Nat} (h : i < l.length) (pre : List Rst) : pre ++ l.take i ++ [l[i]!] = pre ++ l.take (i + 1) := by
  rw [List.append_assoc, getElem!_pos l i h, List.take_append_getElem h]
set_option maxHeartbeats 8000000 in
set_option maxRecDepth 100000 in
theorem rulesValid {w : World} {vb vs : Value} {b : Bk} (hf : b.fits) (hb : RSl Rst.enc 7 w [] vb b.buys) (hs : RSl Rst.enc 7 w [] vs b.sells) : Spec Go.Proofs.Try.prog 20 #[.agg (b.cells vb vs).toArray] w [] (fun u _ => u = .int .i64 (validF b)) := by
  obtain ⟨Ab, cb, rfl, _⟩ := hb.shape
  obtain ⟨As, cs, rfl, _⟩ := hs.shape
  have hbs := hb.small
  have hss := hs.small
  obtain ⟨hf1, hf2, hf3, hf4⟩ := hf
  have hfa : ∀ i, i < b.buys.length → (b.buys[i]!).fits := fun i hi => hf1 _ (by rw [getElem!_pos _ i hi]; exact List.getElem_mem hi)
  have hfb : ∀ i, i < b.sells.length → (b.sells[i]!).fits := fun i hi => hf2 _ (by rw [getElem!_pos _ i hi]; exact List.getElem_mem hi)
  refine Spec.enter (fn := Go.Proofs.Try.f20) (n := 109) [.agg (b.cells (.slice Ab b.buys.length cb) (.slice As b.sells.length cs)).toArray] Go.Proofs.Try.func20 (by kernel_rfl) rfl Go.Proofs.Try.ntmps20 Go.Proofs.Try.results20 rfl (Own.nil _) ?_
  refine JC.rs ?_
  refine Seq.box (cs := [_, _, _, _, _, _]) (k := ?_); intro b1
  refine Seq.p rfl Ev.assign ?_
  refine Seq.nil ?_
  refine JC.seq ?_
  refine JC.rs ?_
  refine Seq.p rfl (Ev.faB fd.api_Book_0) ?_
  refine Seq.p rfl (Ev.ldBPN [_, _] ag.api_Config) ?_
  refine Seq.callP rfl (fun w hw => rulesConfigured (cap := b.cap) (meet := b.meet)) ?_
  refine Seq.p rfl Ev.not ?_
  refine Seq.p rfl Ev.move ?_
  refine Seq.orG (D := [12, 13, 14, 15, 16, 17, 18, 19, 20]) (d := 12) (t := 20) (k := 8) (hn := fun h12 => ?_) (hx := ?_)
  · repeat (first | refine Seq.gn rfl rfl rfl rfl ?_ | refine Seq.gu rfl rfl rfl ?_)
    refine Seq.p rfl Ev.pickT ?_
    exact Seq.nil ⟨rfl, (by repeat (first | with_reducible exact Off.refl | refine Off.upd ?_ rfl | exact Off.mix | refine Off.mix2 ?_ rfl)), Look.here⟩
  apply Exists.intro
  refine ⟨fun h12 => ?_, fun u20 => ?_⟩
  · try simp only [decide_eq_true_eq, decide_eq_false_iff_not, Bool.and_eq_true, Bool.or_eq_true, Bool.not_eq_true', Bool.not_eq_false', Bool.or_eq_false_iff, Bool.and_eq_false_imp] at h12
    refine Seq.gy rfl rfl rfl ?_
    refine Seq.p rfl (Ev.faB fd.api_Book_1) ?_
    refine Seq.gy rfl rfl rfl ?_
    refine Seq.p rfl (Ev.ldB sc.sl_api_Resting) ?_
    refine Seq.gy rfl rfl rfl ?_
    refine Seq.p rfl (Ev.lenSl sl.sl_api_Resting (hr := hb.r)) ?_
    refine Seq.gy rfl rfl rfl ?_
    refine Seq.p rfl (Ev.faB fd.api_Book_0) ?_
    refine Seq.gy rfl rfl rfl ?_
    refine Seq.p rfl (Ev.faB fd.api_Config_0) ?_
    refine Seq.gy rfl rfl rfl ?_
    refine Seq.p rfl (Ev.ldB sc.int) ?_
    refine Seq.gy rfl rfl rfl ?_
    refine Seq.p rfl Ev.gt ?_
    refine Seq.p rfl Ev.pickF ?_
    exact Seq.nil ⟨rfl, (by repeat (first | with_reducible exact Off.refl | refine Off.upd ?_ rfl | exact Off.mix | refine Off.mix2 ?_ rfl)), Look.here⟩
  refine Seq.p rfl Ev.move ?_
  refine Seq.orG (D := [21, 22, 23, 24, 25, 26, 27, 28, 29, 30, 31, 32, 33]) (d := 21) (t := 33) (k := 12) (hn := fun h21 => ?_) (hx := ?_)
  · repeat (first | refine Seq.gn rfl rfl rfl rfl ?_ | refine Seq.gu rfl rfl rfl ?_)
    refine Seq.p rfl Ev.pickT ?_
    exact Seq.nil ⟨rfl, (by repeat (first | with_reducible exact Off.refl | refine Off.upd ?_ rfl | exact Off.mix | refine Off.mix2 ?_ rfl)), Look.here⟩
  apply Exists.intro
  refine ⟨fun h21 => ?_, fun u33 => ?_⟩
  · try simp only [decide_eq_true_eq, decide_eq_false_iff_not, Bool.and_eq_true, Bool.or_eq_true, Bool.not_eq_true', Bool.not_eq_false', Bool.or_eq_false_iff, Bool.and_eq_false_imp] at h21
    have hcap : 1 ≤ b.cap ∧ b.cap ≤ 4096 := by
      cases hcf : configF b.cap b.meet with
      | false => rw [hcf] at h21; simp at h21
      | true => have := of_decide_eq_true hcf; omega
    refine Seq.gy rfl rfl rfl ?_
    refine Seq.p rfl (Ev.faB fd.api_Book_2) ?_
    refine Seq.gy rfl rfl rfl ?_
    refine Seq.p rfl (Ev.ldB sc.sl_api_Resting) ?_
    refine Seq.gy rfl rfl rfl ?_
    refine Seq.p rfl (Ev.lenSl sl.sl_api_Resting (hr := hs.r)) ?_
    refine Seq.gy rfl rfl rfl ?_
    refine Seq.p rfl (Ev.faB fd.api_Book_0) ?_
    refine Seq.gy rfl rfl rfl ?_
    refine Seq.p rfl (Ev.faB fd.api_Config_0) ?_
    refine Seq.gy rfl rfl rfl ?_
    refine Seq.p rfl (Ev.ldB sc.int) ?_
    refine Seq.gy rfl rfl rfl ?_
    refine Seq.p rfl (Ev.faB fd.api_Book_1) ?_
    refine Seq.gy rfl rfl rfl ?_
    refine Seq.p rfl (Ev.ldB sc.sl_api_Resting) ?_
    refine Seq.gy rfl rfl rfl ?_
    refine Seq.p rfl (Ev.lenSl sl.sl_api_Resting (hr := hb.r)) ?_
    refine Seq.gy rfl rfl rfl ?_
    refine Seq.p rfl Ev.sub ?_
    refine Seq.gy rfl rfl rfl ?_
    refine Seq.p rfl Ev.gt ?_
    refine Seq.p rfl Ev.pickF ?_
    exact Seq.nil ⟨rfl, (by repeat (first | with_reducible exact Off.refl | refine Off.upd ?_ rfl | exact Off.mix | refine Off.mix2 ?_ rfl)), Look.here⟩
  refine Seq.nil ?_
  first | refine JC.c (ht := fun c33 => ?_) (hf := fun c33 => ?_) | refine JC.cb (ht := fun c33 => ?_) (hf := fun c33 => ?_)
  · -- then_t33
    have hN : ¬ validP b := by
      rintro ⟨⟨q1, q2, q3, q4⟩, _⟩
      rw [q1] at c33
      simp at c33
      omega
    refine JC.rs ?_
    refine Seq.p rfl Ev.assign ?_
    refine Seq.nil ?_
    refine JC.ret ?_
    show retQ _ _ _ _ _ _ _ _
    refine ret1 (hp := Part.nil _) (hpost := ?_)
    rw [show validF b = 120 from if_neg hN]
  · -- else_t33
    have hC : configF b.cap b.meet = true ∧ b.buys.length ≤ 4096 ∧ b.sells.length ≤ 4096 ∧ ((b.buys.length + b.sells.length : Nat) : Int) ≤ b.cap := by
      cases hcf : configF b.cap b.meet with
      | false => rw [hcf] at c33; simp at c33
      | true =>
        rw [hcf] at c33
        simp at c33
        have hcf2 := of_decide_eq_true hcf
        exact ⟨rfl, by omega, by omega, by omega⟩
    refine JC.skip ?_
    refine JC.rs ?_
    refine Seq.mkQ (Value.int .u64) (k := ?_); intro b34
    refine Seq.p rfl Ev.assign ?_
    refine Seq.nil ?_
    refine JC.seq ?_
    refine JC.rs ?_
    refine Seq.p rfl (Ev.faB fd.api_Book_1) ?_
    refine Seq.p rfl (Ev.ldB sc.sl_api_Resting) ?_
    refine Seq.p rfl (Ev.faB fd.api_Book_2) ?_
    refine Seq.p rfl (Ev.ldB sc.sl_api_Resting) ?_
    refine Seq.buildSlN [(.slice Ab b.buys.length cb), (.slice As b.sells.length cs)] (hsl := sl.sl_sl_api_Resting) (hz := z.sl_api_Resting) (k := ?_); intro b39
    refine Seq.p rfl (Ev.lenH sl.sl_sl_api_Resting) ?_
    refine Seq.p rfl Ev.move ?_
    refine Seq.nil ?_
    refine JC.blk ?_
    refine JC.loopN 3 ?_
    refine JC.round ?_
    refine JC.rs ?_
    refine Seq.p rfl Ev.lt ?_
    refine Seq.nil ?_
    refine JC.seq ?_
    refine JC.cT (h := ?_)
    refine JC.skip ?_
    refine JC.seq ?_
    refine JC.blk ?_
    refine JC.rs ?_
    refine Seq.p rfl Ev.move ?_
    refine Seq.p rfl (Ev.iaN sl.sl_sl_api_Resting (i := 0) (hr := RAt.box (enc := fun v : Value => [v]) (xs := [(.slice Ab b.buys.length cb), (.slice As b.sells.length cs)])) (hi := by simp)) ?_
    refine Seq.p rfl (Ev.ldE1 (v := (.slice Ab b.buys.length cb)) sc.sl_api_Resting (i := 0) (hr := RAt.box (enc := fun v : Value => [v]) (xs := [(.slice Ab b.buys.length cb), (.slice As b.sells.length cs)])) (hi := by simp)) ?_
    refine Seq.p rfl Ev.assign ?_
    refine Seq.p rfl Ev.assign ?_
    refine Seq.nil ?_
    refine JC.rs ?_
    refine Seq.p rfl Ev.move ?_
    refine Seq.p rfl (Ev.lenSl sl.sl_api_Resting (hr := hb.r)) ?_
    refine Seq.p rfl Ev.move ?_
    refine Seq.nil ?_
    refine JC.blk ?_
    refine JC.re (H' := [.mq b34 (Value.int .u64) (seenL (([] : List Rst) ++ b.buys.take 0)), .box b39 47 [(.slice Ab b.buys.length cb), (.slice As b.sells.length cs)], .box b1 49 (b.cells (.slice Ab b.buys.length cb) (.slice As b.sells.length cs))]) (fun w hu => by have h := hu.part (show Part [.mq b34 (Value.int .u64) (seenL ([])), .box b39 47 [(.slice Ab b.buys.length cb), (.slice As b.sells.length cs)], .box b1 49 (b.cells (.slice Ab b.buys.length cb) (.slice As b.sells.length cs))] _ from (by repeat (first | exact Part.nil _ | refine Part.at (by repeat (first | exact At.z | apply At.s)) ?_))); rw [List.take_zero]; exact h) ?_
    refine JC.loop (α := Nat) (I := fun i e1 H1 => i ≤ b.buys.length ∧ (∀ j, j < i → orderF b.buys[j]! b.high = true) ∧ ((([] : List Rst) ++ b.buys.take i).map (fun r => r.id)).Nodup ∧ (∀ j, 1 ≤ j → j < i → betterF 1 b.buys[j]!.price b.buys[j - 1]!.price = false) ∧ Has [2, 6, 7, 48, 49, 50, 51, 52, 53, 54, 55, 56, 57, 58, 59, 60, 61, 62, 63, 64, 65, 66, 67, 68, 69, 70, 71, 72, 73, 74, 75, 76, 77, 78, 79, 80, 81, 82, 83, 84] [(48, .int .i64 (i : Int))] _ e1 ∧ H1 = [.mq b34 (Value.int .u64) (seenL (([] : List Rst) ++ b.buys.take i)), .box b39 47 [(.slice Ab b.buys.length cb), (.slice As b.sells.length cs)], .box b1 49 (b.cells (.slice Ab b.buys.length cb) (.slice As b.sells.length cs))]) (μ := fun i => b.buys.length + 1 - i) 0 ⟨by omega, fun j hj => by omega, by rw [List.take_zero, List.append_nil]; first | exact hO1 | simp, fun j h1 h2 => by omega, Has.mk Off.refl (allLook_cons (by repeat (first | exact Look.here | apply Look.there (hne := rfl) | exact Look.const | apply Look.mix rfl | exact Look.arg0 | apply Look.args | exact Look.func)) allLook_nil), rfl⟩ ?_
    rintro i _ _ ⟨hi, hI1, hI2, hI3, ⟨u, rfl⟩, rfl⟩; dsimp only [setL]
    refine JC.rs ?_
    refine Seq.p rfl Ev.lt ?_
    refine Seq.nil ?_
    refine JC.seq ?_
    first | refine JC.c (ht := fun c49 => ?_) (hf := fun c49 => ?_) | refine JC.cb (ht := fun c49 => ?_) (hf := fun c49 => ?_)
    · -- then_t49
      have hi2 : i < b.buys.length := by omega
      have hmem : b.buys[i]! ∈ b.buys := by rw [getElem!_pos _ i hi2]; exact List.getElem_mem hi2
      refine JC.skip ?_
      refine JC.seq ?_
      refine JC.blk ?_
      refine JC.rs ?_
      refine Seq.p rfl Ev.move ?_
      refine Seq.p rfl (Ev.iaN sl.sl_api_Resting (hr := hb.r)) ?_
      refine Seq.p rfl (Ev.ldEA ag.api_Resting (hr := hb.r)) ?_
      refine Seq.alloc (cs := [_, _, _, _, _, _, _]) (hz := z.api_Resting) (k := ?_); intro b7
      refine Seq.p rfl Ev.assign ?_
      refine Seq.storeN [_, _, _, _, _, _, _] sz.api_Resting (k := ?_)
      refine Seq.nil ?_
      refine JC.seq ?_
      refine JC.qs mixed (by kernel_rfl) ?_
      refine Qui.p rfl (Ev.asR (v' := .agg (b.buys[i]!).enc.toArray) (Ev.ldBA ag.api_Resting) rfl) ?_
      refine Qui.p rfl (Ev.faB fd.api_Book_3) ?_
      refine Qui.p rfl (Ev.ldB sc.uint64) ?_
      refine Qui.call rfl (fun w hw => rulesCanRest (o := b.buys[i]!) (high := b.high) (hfa i hi2)) ?_
      refine Qui.p rfl Ev.not ?_
      refine Qui.p rfl Ev.move ?_
      refine Qui.orG (D := [58, 59, 60, 61, 62, 63]) (d := 58) (t := 63) (k := 5) (hn := fun h58 => ?_) (hx := ?_)
      · repeat (first | refine Qui.gn rfl rfl rfl rfl ?_ | refine Qui.gu rfl rfl rfl ?_)
        refine Qui.p rfl Ev.pickT ?_
        exact Qui.nil ⟨(by repeat (first | with_reducible exact Off.refl | refine Off.upd ?_ rfl | exact Off.mix | refine Off.mix2 ?_ rfl)), Look.here⟩
      apply Exists.intro
      refine ⟨fun h58 => ?_, fun u63 => ?_⟩
      · try simp only [decide_eq_true_eq, decide_eq_false_iff_not, Bool.and_eq_true, Bool.or_eq_true, Bool.not_eq_true', Bool.not_eq_false', Bool.or_eq_false_iff, Bool.and_eq_false_imp] at h58
        refine Qui.gy rfl rfl rfl ?_
        refine Qui.p rfl Ev.move ?_
        refine Qui.gy rfl rfl rfl ?_
        refine Qui.p rfl (Ev.faB fd.api_Resting_0) ?_
        refine Qui.gy rfl rfl rfl ?_
        refine Qui.p rfl (Ev.ldB sc.uint64) ?_
        refine Qui.gy rfl rfl rfl ?_
        refine Qui.p rfl (Ev.asR (v' := .bool (decide (b.buys[i]!.id ∈ (([] : List Rst) ++ b.buys.take i).map fun r => r.id))) (Ev.qGet (k := (b.buys[i]!.id : Int)) mp.m_uint64_bool (intKey .u64) z.bool) (seen_get _ _)) ?_
        refine Qui.p rfl Ev.pickF ?_
        exact Qui.nil ⟨(by repeat (first | with_reducible exact Off.refl | refine Off.upd ?_ rfl | exact Off.mix | refine Off.mix2 ?_ rfl)), Look.here⟩
      refine Qui.p rfl Ev.move ?_
      refine Qui.orG (D := [64, 65, 66, 67, 68, 69, 70, 71, 72, 73, 74, 75, 76, 77, 78, 79, 80]) (d := 64) (t := 80) (k := 16) (hn := fun h64 => ?_) (hx := ?_)
      · repeat (first | refine Qui.gn rfl rfl rfl rfl ?_ | refine Qui.gu rfl rfl rfl ?_)
        refine Qui.p rfl Ev.pickT ?_
        exact Qui.nil ⟨(by repeat (first | with_reducible exact Off.refl | refine Off.upd ?_ rfl | exact Off.mix | refine Off.mix2 ?_ rfl)), Look.here⟩
      apply Exists.intro
      refine ⟨fun h64 => ?_, fun u80 => ?_⟩
      · try simp only [decide_eq_true_eq, decide_eq_false_iff_not, Bool.and_eq_true, Bool.or_eq_true, Bool.not_eq_true', Bool.not_eq_false', Bool.or_eq_false_iff, Bool.and_eq_false_imp] at h64
        refine Qui.gy rfl rfl rfl ?_
        refine Qui.p rfl Ev.move ?_
        refine Qui.gy rfl rfl rfl ?_
        refine Qui.p rfl Ev.gt ?_
        refine Qui.gy rfl rfl rfl ?_
        refine Qui.p rfl Ev.move ?_
        refine Qui.andG (D := [67, 68, 69, 70, 71, 72, 73, 74, 75, 76, 77, 78, 79]) (d := 67) (t := 79) (k := 12) (hn := fun h67 => ?_) (hx := ?_)
        · repeat (first | refine Qui.gn rfl rfl rfl rfl ?_ | refine Qui.gu rfl rfl rfl ?_)
          refine Qui.gy rfl rfl rfl ?_
          refine Qui.p rfl Ev.pickF ?_
          exact Qui.nil ⟨(by repeat (first | with_reducible exact Off.refl | refine Off.upd ?_ rfl | exact Off.mix | refine Off.mix2 ?_ rfl)), Look.here⟩
        apply Exists.intro
        refine ⟨fun h67 => ?_, fun u79 => ?_⟩
        · try simp only [decide_eq_true_eq, decide_eq_false_iff_not, Bool.and_eq_true, Bool.or_eq_true, Bool.not_eq_true', Bool.not_eq_false', Bool.or_eq_false_iff, Bool.and_eq_false_imp] at h67
          refine Qui.gy rfl rfl rfl ?_
          refine Qui.p rfl Ev.move ?_
          refine Qui.gy rfl rfl rfl ?_
          refine Qui.p rfl (by first | exact Ev.inc | exact Ev.add) ?_
          refine Qui.gy rfl rfl rfl ?_
          refine Qui.p rfl (Ev.faB fd.api_Resting_3) ?_
          refine Qui.gy rfl rfl rfl ?_
          refine Qui.p rfl (Ev.ldB sc.int) ?_
          refine Qui.gy rfl rfl rfl ?_
          refine Qui.p rfl Ev.move ?_
          refine Qui.gy rfl rfl rfl ?_
          refine Qui.p rfl Ev.move ?_
          refine Qui.gy rfl rfl rfl ?_
          refine Qui.p rfl (Ev.subN (a := i) (b := 1)) ?_
          refine Qui.gy rfl rfl rfl ?_
          refine Qui.p rfl (Ev.iaN sl.sl_api_Resting (hr := hb.r)) ?_
          refine Qui.gy rfl rfl rfl ?_
          refine Qui.p rfl (Ev.fa fd.api_Resting_3) ?_
          refine Qui.gy rfl rfl rfl ?_
          refine Qui.p rfl (Ev.ldE sc.int (hr := hb.r)) ?_
          refine Qui.gy rfl rfl rfl ?_
          refine Qui.call rfl (fun w hw => rulesBetter (s := 1) (p := b.buys[i]!.price) (q := b.buys[i - 1]!.price)) ?_
          refine Qui.gy rfl rfl rfl ?_
          refine Qui.p rfl Ev.pickT ?_
          exact Qui.nil ⟨(by repeat (first | with_reducible exact Off.refl | refine Off.upd ?_ rfl | exact Off.mix | refine Off.mix2 ?_ rfl)), Look.here⟩
        refine Qui.p rfl Ev.pickF ?_
        exact Qui.nil ⟨(by repeat (first | with_reducible exact Off.refl | refine Off.upd ?_ rfl | exact Off.mix | refine Off.mix2 ?_ rfl)), Look.here⟩
      refine Qui.nil ?_
      first | refine JC.c (ht := fun c80 => ?_) (hf := fun c80 => ?_) | refine JC.cb (ht := fun c80 => ?_) (hf := fun c80 => ?_)
      · -- then_t80
        have hN : ¬ validP b := by
          rintro ⟨_, q2, ⟨q3, q4, q5⟩, _⟩
          have g1 := q2 _ (show b.buys[i]! ∈ b.buys ++ b.sells from by first | exact List.mem_append_left _ hmem | exact List.mem_append_right _ hmem)
          rw [g1] at c80
          simp only [Bool.not_true, Bool.false_or, Bool.or_eq_true, Bool.and_eq_true, decide_eq_true_eq] at c80
          rcases c80 with h | h
          · have g3 := once_nodup.1 q3
            have g4 : ((([] : List Rst) ++ b.buys.take (i + 1)).map fun r => r.id).Nodup := by
              refine g3.sublist (List.Sublist.map _ ?_)
              first | exact ((List.take_sublist _ _).trans (List.sublist_append_left _ _)) | exact (List.take_sublist _ _).append_left _
            rw [← take_next hi2, List.map_append, List.nodup_append] at g4
            exact g4.2.2 _ h _ (by simp) rfl
          · have := q4 i (by omega) hi2
            rw [this] at h
            exact absurd h.2 (by simp)
        refine JC.rs ?_
        refine Seq.p rfl Ev.assign ?_
        refine Seq.nil ?_
        refine JC.ret ?_
        show retQ _ _ _ _ _ _ _ _
        refine ret1 (hp := Part.nil _) (hpost := ?_)
        rw [show validF b = 120 from if_neg hN]
      · -- else_t80
        have hgo : orderF b.buys[i]! b.high = true := by
          cases h : orderF b.buys[i]! b.high with
          | true => rfl
          | false => rw [h] at c80; simp at c80
        rw [hgo] at c80
        simp only [Bool.not_true, Bool.false_or, Bool.or_eq_true, Bool.and_eq_true, decide_eq_true_eq, Bool.or_eq_false_iff, decide_eq_false_iff_not, Bool.and_eq_false_iff, not_or, not_and] at c80
        have hgn : b.buys[i]!.id ∉ (([] : List Rst) ++ b.buys.take i).map fun r => r.id := c80.1
        have hgb : 1 ≤ i → betterF 1 b.buys[i]!.price b.buys[i - 1]!.price = false := fun h => by
          have h2 := c80.2
          first | exact h2.resolve_left (by omega) | simpa using h2 (by omega)
        refine JC.skip ?_
        refine JC.reg ?_
        refine Seq.p rfl Ev.move ?_
        refine Seq.p rfl (Ev.faB fd.api_Resting_0) ?_
        refine Seq.p rfl (Ev.ldB sc.uint64) ?_
        refine Seq.qPut (k := (b.buys[i]!.id : Int)) (v := .bool true) mp.m_uint64_bool (intKey .u64) (kk := ?_)
        rw [seen_put _ _ hgn, take_next hi2]
        refine Seq.nil ?_
        refine JC.reg ?_
        refine Seq.p rfl (by first | exact Ev.inc | exact Ev.add) ?_
        refine Seq.p rfl Ev.move ?_
        refine Seq.nil ?_
        exact ⟨i + 1, _, (show Part [.mq b34 (Value.int .u64) (seenL (([] : List Rst) ++ b.buys.take (i + 1))), .box b39 47 [(.slice Ab b.buys.length cb), (.slice As b.sells.length cs)], .box b1 49 (b.cells (.slice Ab b.buys.length cb) (.slice As b.sells.length cs))] _ from (by repeat (first | exact Part.nil _ | refine Part.at (by repeat (first | exact At.z | apply At.s)) ?_))), ⟨by omega, fun j hj => by
          rcases Nat.lt_or_ge j i with h4 | h4
          · exact hI1 j h4
          · rw [show j = i by omega]; exact hgo, by
          rw [← take_next hi2, List.map_append, List.nodup_append]
          exact ⟨hI2, by simp, fun a ha c hc e => by rw [List.map_singleton, List.mem_singleton] at hc; rw [e, hc] at ha; exact hgn ha⟩, fun j h1 h2 => by
          rcases Nat.lt_or_ge j i with h4 | h4
          · exact hI3 j h1 h4
          · rw [show j = i by omega]; exact hgb (by omega), Has.mk (by repeat (first | refine Off.upd ?_ rfl | exact Off.mix | refine Off.mix2 ?_ rfl | exact Off.refl)) (allLook_cons (by repeat (first | exact Look.here | apply Look.there (hne := rfl) | exact Look.const | apply Look.mix rfl | exact Look.arg0 | apply Look.args | exact Look.func)) allLook_nil), rfl⟩, by omega⟩
    · -- else_t49
      have hie : i = b.buys.length := by omega
      rw [hie, List.take_length]
      rw [hie] at hI1 hI2 hI3
      rw [List.take_length] at hI2
      have hF1 : ∀ r ∈ b.buys, orderF r b.high = true := fun x hx => by
        obtain ⟨j, hj, rfl⟩ := List.getElem_of_mem hx
        have := hI1 j hj
        rwa [getElem!_pos _ j hj] at this
      have hS1 : sortedP 1 b.buys := fun j h1 h2 => hI3 j h1 h2
      have hO1 := hI2
      rw [List.nil_append] at hO1
      rw [List.nil_append]
      refine JC.exit ?_ -- 2
      refine JC.reg ?_
      refine Seq.p rfl (by first | exact Ev.inc | exact Ev.add) ?_
      refine Seq.p rfl Ev.move ?_
      refine Seq.nil ?_
      refine JC.round ?_
      refine JC.rs ?_
      refine Seq.p rfl Ev.lt ?_
      refine Seq.nil ?_
      refine JC.seq ?_
      refine JC.cT (h := ?_)
      refine JC.skip ?_
      refine JC.seq ?_
      refine JC.blk ?_
      refine JC.rs ?_
      refine Seq.p rfl Ev.move ?_
      refine Seq.p rfl (Ev.iaN sl.sl_sl_api_Resting (i := 1) (hr := RAt.box (enc := fun v : Value => [v]) (xs := [(.slice Ab b.buys.length cb), (.slice As b.sells.length cs)])) (hi := by simp)) ?_
      refine Seq.p rfl (Ev.ldE1 (v := (.slice As b.sells.length cs)) sc.sl_api_Resting (i := 1) (hr := RAt.box (enc := fun v : Value => [v]) (xs := [(.slice Ab b.buys.length cb), (.slice As b.sells.length cs)])) (hi := by simp)) ?_
      refine Seq.p rfl Ev.assign ?_
      refine Seq.p rfl Ev.assign ?_
      refine Seq.nil ?_
      refine JC.rs ?_
      refine Seq.p rfl Ev.move ?_
      refine Seq.p rfl (Ev.lenSl sl.sl_api_Resting (hr := hs.r)) ?_
      refine Seq.p rfl Ev.move ?_
      refine Seq.nil ?_
      refine JC.blk ?_
      refine JC.re (H' := [.mq b34 (Value.int .u64) (seenL (b.buys ++ b.sells.take 0)), .box b39 47 [(.slice Ab b.buys.length cb), (.slice As b.sells.length cs)], .box b1 49 (b.cells (.slice Ab b.buys.length cb) (.slice As b.sells.length cs))]) (fun w hu => by have h := hu.part (show Part [.mq b34 (Value.int .u64) (seenL (b.buys)), .box b39 47 [(.slice Ab b.buys.length cb), (.slice As b.sells.length cs)], .box b1 49 (b.cells (.slice Ab b.buys.length cb) (.slice As b.sells.length cs))] _ from (by repeat (first | exact Part.nil _ | refine Part.at (by repeat (first | exact At.z | apply At.s)) ?_))); rw [List.take_zero, List.append_nil]; exact h) ?_
      refine JC.loop (α := Nat) (I := fun i e1 H1 => i ≤ b.sells.length ∧ (∀ j, j < i → orderF b.sells[j]! b.high = true) ∧ ((b.buys ++ b.sells.take i).map (fun r => r.id)).Nodup ∧ (∀ j, 1 ≤ j → j < i → betterF 2 b.sells[j]!.price b.sells[j - 1]!.price = false) ∧ Has [2, 6, 7, 48, 49, 50, 51, 52, 53, 54, 55, 56, 57, 58, 59, 60, 61, 62, 63, 64, 65, 66, 67, 68, 69, 70, 71, 72, 73, 74, 75, 76, 77, 78, 79, 80, 81, 82, 83, 84] [(48, .int .i64 (i : Int))] _ e1 ∧ H1 = [.mq b34 (Value.int .u64) (seenL (b.buys ++ b.sells.take i)), .box b39 47 [(.slice Ab b.buys.length cb), (.slice As b.sells.length cs)], .box b1 49 (b.cells (.slice Ab b.buys.length cb) (.slice As b.sells.length cs))]) (μ := fun i => b.sells.length + 1 - i) 0 ⟨by omega, fun j hj => by omega, by rw [List.take_zero, List.append_nil]; first | exact hO1 | simp, fun j h1 h2 => by omega, Has.mk Off.refl (allLook_cons (by repeat (first | exact Look.here | apply Look.there (hne := rfl) | exact Look.const | apply Look.mix rfl | exact Look.arg0 | apply Look.args | exact Look.func)) allLook_nil), rfl⟩ ?_
      rintro i _ _ ⟨hi, hI1, hI2, hI3, ⟨u, rfl⟩, rfl⟩; dsimp only [setL]
      refine JC.rs ?_
      refine Seq.p rfl Ev.lt ?_
      refine Seq.nil ?_
      refine JC.seq ?_
      first | refine JC.c (ht := fun c49 => ?_) (hf := fun c49 => ?_) | refine JC.cb (ht := fun c49 => ?_) (hf := fun c49 => ?_)
      · -- then_t49
        have hi2 : i < b.sells.length := by omega
        have hmem : b.sells[i]! ∈ b.sells := by rw [getElem!_pos _ i hi2]; exact List.getElem_mem hi2
        refine JC.skip ?_
        refine JC.seq ?_
        refine JC.blk ?_
        refine JC.rs ?_
        refine Seq.p rfl Ev.move ?_
        refine Seq.p rfl (Ev.iaN sl.sl_api_Resting (hr := hs.r)) ?_
        refine Seq.p rfl (Ev.ldEA ag.api_Resting (hr := hs.r)) ?_
        refine Seq.alloc (cs := [_, _, _, _, _, _, _]) (hz := z.api_Resting) (k := ?_); intro b7
        refine Seq.p rfl Ev.assign ?_
        refine Seq.storeN [_, _, _, _, _, _, _] sz.api_Resting (k := ?_)
        refine Seq.nil ?_
        refine JC.seq ?_
        refine JC.qs mixed (by kernel_rfl) ?_
        refine Qui.p rfl (Ev.asR (v' := .agg (b.sells[i]!).enc.toArray) (Ev.ldBA ag.api_Resting) rfl) ?_
        refine Qui.p rfl (Ev.faB fd.api_Book_3) ?_
        refine Qui.p rfl (Ev.ldB sc.uint64) ?_
        refine Qui.call rfl (fun w hw => rulesCanRest (o := b.sells[i]!) (high := b.high) (hfb i hi2)) ?_
        refine Qui.p rfl Ev.not ?_
        refine Qui.p rfl Ev.move ?_
        refine Qui.orG (D := [58, 59, 60, 61, 62, 63]) (d := 58) (t := 63) (k := 5) (hn := fun h58 => ?_) (hx := ?_)
        · repeat (first | refine Qui.gn rfl rfl rfl rfl ?_ | refine Qui.gu rfl rfl rfl ?_)
          refine Qui.p rfl Ev.pickT ?_
          exact Qui.nil ⟨(by repeat (first | with_reducible exact Off.refl | refine Off.upd ?_ rfl | exact Off.mix | refine Off.mix2 ?_ rfl)), Look.here⟩
        apply Exists.intro
        refine ⟨fun h58 => ?_, fun u63 => ?_⟩
        · try simp only [decide_eq_true_eq, decide_eq_false_iff_not, Bool.and_eq_true, Bool.or_eq_true, Bool.not_eq_true', Bool.not_eq_false', Bool.or_eq_false_iff, Bool.and_eq_false_imp] at h58
          refine Qui.gy rfl rfl rfl ?_
          refine Qui.p rfl Ev.move ?_
          refine Qui.gy rfl rfl rfl ?_
          refine Qui.p rfl (Ev.faB fd.api_Resting_0) ?_
          refine Qui.gy rfl rfl rfl ?_
          refine Qui.p rfl (Ev.ldB sc.uint64) ?_
          refine Qui.gy rfl rfl rfl ?_
          refine Qui.p rfl (Ev.asR (v' := .bool (decide (b.sells[i]!.id ∈ (b.buys ++ b.sells.take i).map fun r => r.id))) (Ev.qGet (k := (b.sells[i]!.id : Int)) mp.m_uint64_bool (intKey .u64) z.bool) (seen_get _ _)) ?_
          refine Qui.p rfl Ev.pickF ?_
          exact Qui.nil ⟨(by repeat (first | with_reducible exact Off.refl | refine Off.upd ?_ rfl | exact Off.mix | refine Off.mix2 ?_ rfl)), Look.here⟩
        refine Qui.p rfl Ev.move ?_
        refine Qui.orG (D := [64, 65, 66, 67, 68, 69, 70, 71, 72, 73, 74, 75, 76, 77, 78, 79, 80]) (d := 64) (t := 80) (k := 16) (hn := fun h64 => ?_) (hx := ?_)
        · repeat (first | refine Qui.gn rfl rfl rfl rfl ?_ | refine Qui.gu rfl rfl rfl ?_)
          refine Qui.p rfl Ev.pickT ?_
          exact Qui.nil ⟨(by repeat (first | with_reducible exact Off.refl | refine Off.upd ?_ rfl | exact Off.mix | refine Off.mix2 ?_ rfl)), Look.here⟩
        apply Exists.intro
        refine ⟨fun h64 => ?_, fun u80 => ?_⟩
        · try simp only [decide_eq_true_eq, decide_eq_false_iff_not, Bool.and_eq_true, Bool.or_eq_true, Bool.not_eq_true', Bool.not_eq_false', Bool.or_eq_false_iff, Bool.and_eq_false_imp] at h64
          refine Qui.gy rfl rfl rfl ?_
          refine Qui.p rfl Ev.move ?_
          refine Qui.gy rfl rfl rfl ?_
          refine Qui.p rfl Ev.gt ?_
          refine Qui.gy rfl rfl rfl ?_
          refine Qui.p rfl Ev.move ?_
          refine Qui.andG (D := [67, 68, 69, 70, 71, 72, 73, 74, 75, 76, 77, 78, 79]) (d := 67) (t := 79) (k := 12) (hn := fun h67 => ?_) (hx := ?_)
          · repeat (first | refine Qui.gn rfl rfl rfl rfl ?_ | refine Qui.gu rfl rfl rfl ?_)
            refine Qui.gy rfl rfl rfl ?_
            refine Qui.p rfl Ev.pickF ?_
            exact Qui.nil ⟨(by repeat (first | with_reducible exact Off.refl | refine Off.upd ?_ rfl | exact Off.mix | refine Off.mix2 ?_ rfl)), Look.here⟩
          apply Exists.intro
          refine ⟨fun h67 => ?_, fun u79 => ?_⟩
          · try simp only [decide_eq_true_eq, decide_eq_false_iff_not, Bool.and_eq_true, Bool.or_eq_true, Bool.not_eq_true', Bool.not_eq_false', Bool.or_eq_false_iff, Bool.and_eq_false_imp] at h67
            refine Qui.gy rfl rfl rfl ?_
            refine Qui.p rfl Ev.move ?_
            refine Qui.gy rfl rfl rfl ?_
            refine Qui.p rfl (by first | exact Ev.inc | exact Ev.add) ?_
            refine Qui.gy rfl rfl rfl ?_
            refine Qui.p rfl (Ev.faB fd.api_Resting_3) ?_
            refine Qui.gy rfl rfl rfl ?_
            refine Qui.p rfl (Ev.ldB sc.int) ?_
            refine Qui.gy rfl rfl rfl ?_
            refine Qui.p rfl Ev.move ?_
            refine Qui.gy rfl rfl rfl ?_
            refine Qui.p rfl Ev.move ?_
            refine Qui.gy rfl rfl rfl ?_
            refine Qui.p rfl (Ev.subN (a := i) (b := 1)) ?_
            refine Qui.gy rfl rfl rfl ?_
            refine Qui.p rfl (Ev.iaN sl.sl_api_Resting (hr := hs.r)) ?_
            refine Qui.gy rfl rfl rfl ?_
            refine Qui.p rfl (Ev.fa fd.api_Resting_3) ?_
            refine Qui.gy rfl rfl rfl ?_
            refine Qui.p rfl (Ev.ldE sc.int (hr := hs.r)) ?_
            refine Qui.gy rfl rfl rfl ?_
            refine Qui.call rfl (fun w hw => rulesBetter (s := 2) (p := b.sells[i]!.price) (q := b.sells[i - 1]!.price)) ?_
            refine Qui.gy rfl rfl rfl ?_
            refine Qui.p rfl Ev.pickT ?_
            exact Qui.nil ⟨(by repeat (first | with_reducible exact Off.refl | refine Off.upd ?_ rfl | exact Off.mix | refine Off.mix2 ?_ rfl)), Look.here⟩
          refine Qui.p rfl Ev.pickF ?_
          exact Qui.nil ⟨(by repeat (first | with_reducible exact Off.refl | refine Off.upd ?_ rfl | exact Off.mix | refine Off.mix2 ?_ rfl)), Look.here⟩
        refine Qui.nil ?_
        first | refine JC.c (ht := fun c80 => ?_) (hf := fun c80 => ?_) | refine JC.cb (ht := fun c80 => ?_) (hf := fun c80 => ?_)
        · -- then_t80
          have hN : ¬ validP b := by
            rintro ⟨_, q2, ⟨q3, q4, q5⟩, _⟩
            have g1 := q2 _ (show b.sells[i]! ∈ b.buys ++ b.sells from by first | exact List.mem_append_left _ hmem | exact List.mem_append_right _ hmem)
            rw [g1] at c80
            simp only [Bool.not_true, Bool.false_or, Bool.or_eq_true, Bool.and_eq_true, decide_eq_true_eq] at c80
            rcases c80 with h | h
            · have g3 := once_nodup.1 q3
              have g4 : ((b.buys ++ b.sells.take (i + 1)).map fun r => r.id).Nodup := by
                refine g3.sublist (List.Sublist.map _ ?_)
                first | exact ((List.take_sublist _ _).trans (List.sublist_append_left _ _)) | exact (List.take_sublist _ _).append_left _
              rw [← take_next hi2, List.map_append, List.nodup_append] at g4
              exact g4.2.2 _ h _ (by simp) rfl
            · have := q5 i (by omega) hi2
              rw [this] at h
              exact absurd h.2 (by simp)
          refine JC.rs ?_
          refine Seq.p rfl Ev.assign ?_
          refine Seq.nil ?_
          refine JC.ret ?_
          show retQ _ _ _ _ _ _ _ _
          refine ret1 (hp := Part.nil _) (hpost := ?_)
          rw [show validF b = 120 from if_neg hN]
        · -- else_t80
          have hgo : orderF b.sells[i]! b.high = true := by
            cases h : orderF b.sells[i]! b.high with
            | true => rfl
            | false => rw [h] at c80; simp at c80
          rw [hgo] at c80
          simp only [Bool.not_true, Bool.false_or, Bool.or_eq_true, Bool.and_eq_true, decide_eq_true_eq, Bool.or_eq_false_iff, decide_eq_false_iff_not, Bool.and_eq_false_iff, not_or, not_and] at c80
          have hgn : b.sells[i]!.id ∉ (b.buys ++ b.sells.take i).map fun r => r.id := c80.1
          have hgb : 1 ≤ i → betterF 2 b.sells[i]!.price b.sells[i - 1]!.price = false := fun h => by
            have h2 := c80.2
            first | exact h2.resolve_left (by omega) | simpa using h2 (by omega)
          refine JC.skip ?_
          refine JC.reg ?_
          refine Seq.p rfl Ev.move ?_
          refine Seq.p rfl (Ev.faB fd.api_Resting_0) ?_
          refine Seq.p rfl (Ev.ldB sc.uint64) ?_
          refine Seq.qPut (k := (b.sells[i]!.id : Int)) (v := .bool true) mp.m_uint64_bool (intKey .u64) (kk := ?_)
          rw [seen_put _ _ hgn, take_next hi2]
          refine Seq.nil ?_
          refine JC.reg ?_
          refine Seq.p rfl (by first | exact Ev.inc | exact Ev.add) ?_
          refine Seq.p rfl Ev.move ?_
          refine Seq.nil ?_
          exact ⟨i + 1, _, (show Part [.mq b34 (Value.int .u64) (seenL (b.buys ++ b.sells.take (i + 1))), .box b39 47 [(.slice Ab b.buys.length cb), (.slice As b.sells.length cs)], .box b1 49 (b.cells (.slice Ab b.buys.length cb) (.slice As b.sells.length cs))] _ from (by repeat (first | exact Part.nil _ | refine Part.at (by repeat (first | exact At.z | apply At.s)) ?_))), ⟨by omega, fun j hj => by
            rcases Nat.lt_or_ge j i with h4 | h4
            · exact hI1 j h4
            · rw [show j = i by omega]; exact hgo, by
            rw [← take_next hi2, List.map_append, List.nodup_append]
            exact ⟨hI2, by simp, fun a ha c hc e => by rw [List.map_singleton, List.mem_singleton] at hc; rw [e, hc] at ha; exact hgn ha⟩, fun j h1 h2 => by
            rcases Nat.lt_or_ge j i with h4 | h4
            · exact hI3 j h1 h4
            · rw [show j = i by omega]; exact hgb (by omega), Has.mk (by repeat (first | refine Off.upd ?_ rfl | exact Off.mix | refine Off.mix2 ?_ rfl | exact Off.refl)) (allLook_cons (by repeat (first | exact Look.here | apply Look.there (hne := rfl) | exact Look.const | apply Look.mix rfl | exact Look.arg0 | apply Look.args | exact Look.func)) allLook_nil), rfl⟩, by omega⟩
      · -- else_t49
        have hie : i = b.sells.length := by omega
        rw [hie, List.take_length]
        rw [hie] at hI1 hI2 hI3
        rw [List.take_length] at hI2
        have hF2 : ∀ r ∈ b.sells, orderF r b.high = true := fun x hx => by
          obtain ⟨j, hj, rfl⟩ := List.getElem_of_mem hx
          have := hI1 j hj
          rwa [getElem!_pos _ j hj] at this
        have hS2 : sortedP 2 b.sells := fun j h1 h2 => hI3 j h1 h2
        have hO2 := hI2
        refine JC.exit ?_ -- 2
        refine JC.reg ?_
        refine Seq.p rfl (by first | exact Ev.inc | exact Ev.add) ?_
        refine Seq.p rfl Ev.move ?_
        refine Seq.nil ?_
        refine JC.round ?_
        refine JC.rs ?_
        refine Seq.p rfl Ev.lt ?_
        refine Seq.nil ?_
        refine JC.seq ?_
        refine JC.cF (h := ?_)
        refine JC.exit ?_ -- 0
        refine JC.seq ?_
        refine JC.qs mixed (by kernel_rfl) ?_
        refine Qui.p rfl (Ev.faB fd.api_Book_1) ?_
        refine Qui.p rfl (Ev.ldB sc.sl_api_Resting) ?_
        refine Qui.p rfl (Ev.lenSl sl.sl_api_Resting (hr := hb.r)) ?_
        refine Qui.p rfl Ev.gt ?_
        refine Qui.p rfl Ev.move ?_
        refine Qui.andG (D := [90, 91, 92, 93, 94, 95]) (d := 90) (t := 95) (k := 5) (hn := fun h90 => ?_) (hx := ?_)
        · repeat (first | refine Qui.gn rfl rfl rfl rfl ?_ | refine Qui.gu rfl rfl rfl ?_)
          refine Qui.p rfl Ev.pickF ?_
          exact Qui.nil ⟨(by repeat (first | with_reducible exact Off.refl | refine Off.upd ?_ rfl | exact Off.mix | refine Off.mix2 ?_ rfl)), Look.here⟩
        apply Exists.intro
        refine ⟨fun h90 => ?_, fun u95 => ?_⟩
        · try simp only [decide_eq_true_eq, decide_eq_false_iff_not, Bool.and_eq_true, Bool.or_eq_true, Bool.not_eq_true', Bool.not_eq_false', Bool.or_eq_false_iff, Bool.and_eq_false_imp] at h90
          refine Qui.gy rfl rfl rfl ?_
          refine Qui.p rfl (Ev.faB fd.api_Book_2) ?_
          refine Qui.gy rfl rfl rfl ?_
          refine Qui.p rfl (Ev.ldB sc.sl_api_Resting) ?_
          refine Qui.gy rfl rfl rfl ?_
          refine Qui.p rfl (Ev.lenSl sl.sl_api_Resting (hr := hs.r)) ?_
          refine Qui.gy rfl rfl rfl ?_
          refine Qui.p rfl Ev.gt ?_
          refine Qui.p rfl Ev.pickT ?_
          exact Qui.nil ⟨(by repeat (first | with_reducible exact Off.refl | refine Off.upd ?_ rfl | exact Off.mix | refine Off.mix2 ?_ rfl)), Look.here⟩
        refine Qui.p rfl Ev.move ?_
        refine Qui.andG (D := [96, 97, 98, 99, 100, 101, 102, 103, 104, 105, 106, 107, 108]) (d := 96) (t := 108) (k := 12) (hn := fun h96 => ?_) (hx := ?_)
        · repeat (first | refine Qui.gn rfl rfl rfl rfl ?_ | refine Qui.gu rfl rfl rfl ?_)
          refine Qui.p rfl Ev.pickF ?_
          exact Qui.nil ⟨(by repeat (first | with_reducible exact Off.refl | refine Off.upd ?_ rfl | exact Off.mix | refine Off.mix2 ?_ rfl)), Look.here⟩
        apply Exists.intro
        refine ⟨fun h96 => ?_, fun u108 => ?_⟩
        · try simp only [decide_eq_true_eq, decide_eq_false_iff_not, Bool.and_eq_true, Bool.or_eq_true, Bool.not_eq_true', Bool.not_eq_false', Bool.or_eq_false_iff, Bool.and_eq_false_imp] at h96
          refine Qui.gy rfl rfl rfl ?_
          refine Qui.p rfl (Ev.faB fd.api_Book_1) ?_
          refine Qui.gy rfl rfl rfl ?_
          refine Qui.p rfl (Ev.ldB sc.sl_api_Resting) ?_
          refine Qui.gy rfl rfl rfl ?_
          refine Qui.p rfl (Ev.iaN sl.sl_api_Resting (i := 0) (hr := hb.r) (hi := by omega)) ?_
          refine Qui.gy rfl rfl rfl ?_
          refine Qui.p rfl (Ev.fa fd.api_Resting_3) ?_
          refine Qui.gy rfl rfl rfl ?_
          refine Qui.p rfl (Ev.ldE sc.int (hr := hb.r)) ?_
          refine Qui.gy rfl rfl rfl ?_
          refine Qui.p rfl (Ev.faB fd.api_Book_2) ?_
          refine Qui.gy rfl rfl rfl ?_
          refine Qui.p rfl (Ev.ldB sc.sl_api_Resting) ?_
          refine Qui.gy rfl rfl rfl ?_
          refine Qui.p rfl (Ev.iaN sl.sl_api_Resting (i := 0) (hr := hs.r) (hi := by omega)) ?_
          refine Qui.gy rfl rfl rfl ?_
          refine Qui.p rfl (Ev.fa fd.api_Resting_3) ?_
          refine Qui.gy rfl rfl rfl ?_
          refine Qui.p rfl (Ev.ldE sc.int (hr := hs.r)) ?_
          refine Qui.gy rfl rfl rfl ?_
          refine Qui.p rfl Ev.ge ?_
          refine Qui.p rfl Ev.pickT ?_
          exact Qui.nil ⟨(by repeat (first | with_reducible exact Off.refl | refine Off.upd ?_ rfl | exact Off.mix | refine Off.mix2 ?_ rfl)), Look.here⟩
        refine Qui.nil ?_
        first | refine JC.c (ht := fun c108 => ?_) (hf := fun c108 => ?_) | refine JC.cb (ht := fun c108 => ?_) (hf := fun c108 => ?_)
        · -- then_t108
          have hX : crossP b := by
            simp only [Bool.and_eq_true, decide_eq_true_eq] at c108
            exact ⟨List.length_pos_iff.1 (by omega), List.length_pos_iff.1 (by omega), by omega⟩
          refine JC.rs ?_
          refine Seq.p rfl Ev.assign ?_
          refine Seq.nil ?_
          refine JC.ret ?_
          show retQ _ _ _ _ _ _ _ _
          refine ret1 (hp := Part.nil _) (hpost := ?_)
          rw [show validF b = 120 from if_neg (fun h => h.2.2.2 hX)]
        · -- else_t108
          have hX : ¬ crossP b := by
            rintro ⟨g1, g2, g3⟩
            have g4 := List.length_pos_iff.2 g1
            have g5 := List.length_pos_iff.2 g2
            simp only [Bool.and_eq_false_iff, decide_eq_false_iff_not] at c108
            omega
          refine JC.skip ?_
          refine JC.rs ?_
          refine Seq.p rfl Ev.assign ?_
          refine Seq.nil ?_
          refine JC.ret ?_
          show retQ _ _ _ _ _ _ _ _
          refine ret1 (hp := Part.nil _) (hpost := ?_)
          rw [show validF b = 0 from if_pos ⟨hC, fun r hr => by
            rcases List.mem_append.1 hr with h | h
            · exact hF1 r h
            · exact hF2 r h, ⟨once_nodup.2 hO2, hS1, hS2⟩, hX⟩]
end Go.Rx
/- The book over trees: a new one; a loaded one; its best level. (printed by gen_oy7.py) -/
namespace Go.Rx
open Go Go.RowKit
set_option linter.unusedVariables false
set_option linter.unusedSimpArgs false
def TS.empty : TS := ⟨.nil, .nil, [], [], []⟩
theorem TOk.empty (cap meet : Int) : TOk TS.empty (Bk.empty cap meet) :=
  ⟨⟨rfl, trivial, List.Pairwise.nil, (by intro l hl; cases hl), rfl⟩, ⟨rfl, trivial, List.Pairwise.nil, (by intro l hl; cases hl), rfl⟩, List.Perm.refl _, List.Pairwise.nil⟩
theorem Upd.emptyAll {w0 w : World} {Cs G : List Chunk} {bk mb : Nat} {cap meet : Int} (h : Upd w0 w Cs (bookC bk cap meet none none mb 0 0 :: .mq mb (Value.int .u64) ([] : List (Int × Value)) :: G)) : Upd w0 w Cs (TS.empty.all bk mb (Bk.empty cap meet) ++ G) := by
  have h1 : Upd w0 w Cs (treeC nodeT .nil :: treeC nodeT .nil :: levsC 1 [] :: levsC 2 [] :: bookC bk cap meet none none mb 0 0 :: .mq mb (Value.int .u64) ([] : List (Int × Value)) :: G) := Upd.pk0 (L := []) (Upd.pk0 (L := []) (Upd.pk0 (L := []) (Upd.pk0 (L := []) h)))
  refine h1.perm ?_
  show (_ :: _ :: _ :: _ :: _ :: _ :: G).Perm (bookC bk cap meet none none mb 0 0 :: treeC nodeT .nil :: treeC nodeT .nil :: .mq mb (Value.int .u64) ([] : List (Int × Value)) :: levsC 1 [] :: levsC 2 [] :: G)
  refine (List.perm_append_comm (l₁ := [treeC nodeT .nil, treeC nodeT .nil, levsC 1 [], levsC 2 []]) (l₂ := [bookC bk cap meet none none mb 0 0, .mq mb (Value.int .u64) ([] : List (Int × Value))]) |>.append_right G).trans ?_
  refine List.Perm.cons _ ?_
  show (_ :: treeC nodeT .nil :: treeC nodeT .nil :: _).Perm _
  exact (List.Perm.swap _ _ _).trans ((List.Perm.swap _ _ _).cons _)
set_option maxHeartbeats 1000000 in
set_option maxRecDepth 100000 in
theorem tbClear {w : World} {bk : Nat} {c0 c1 c2 c3 c4 c5 c6 : Value} {cap meet : Int} (hO : Own w [.box bk bookT [c0, c1, c2, c3, c4, c5, c6]]) :
    Spec Go.Proofs.Try.prog 37 #[.pointer (some ⟨bk, 0, none⟩), .agg #[.int .i64 cap, .int .i64 meet]] w [.box bk bookT [c0, c1, c2, c3, c4, c5, c6]] (fun _ H' => ∃ mb, H' = TS.empty.all bk mb (Bk.empty cap meet)) := by
  refine Spec.enter (fn := Go.Proofs.Try.f37) (n := 9) [.pointer (some ⟨bk, 0, none⟩), .agg #[.int .i64 cap, .int .i64 meet]] Go.Proofs.Try.func37 (by kernel_rfl) rfl Go.Proofs.Try.ntmps37 Go.Proofs.Try.results37 rfl hO ?_
  refine JC.rs ?_
  refine Seq.box (cs := [_, _]) (k := ?_); intro b3
  refine Seq.nil ?_
  refine JC.reg ?_
  refine Seq.p rfl Ev.move ?_
  refine Seq.p rfl (Ev.asR (v' := .agg #[.int .i64 cap, .int .i64 meet]) (Ev.ldBA ag.api_Config) rfl) ?_
  refine Seq.mkQ (Value.int .u64) (k := ?_); intro b6
  refine Seq.p rfl (Ev.buildN [_, _, _, _, _, _, _] pl.treebook_Book z.treebook_Book) ?_
  refine Seq.p rfl Ev.nilP ?_
  refine Seq.storeN [_, _, _, _, _, _, _] sz.treebook_Book (k := ?_)
  refine Seq.re (H' := TS.empty.all bk b6 (Bk.empty cap meet) ++ []) (fun w hu => Upd.emptyAll (hu.part (by repeat (first | exact Part.nil _ | refine Part.at (by repeat (first | exact At.z | apply At.s)) ?_)))) ?_
  refine Seq.nil ?_
  first | show retQ _ _ _ _ _ .normal _ _ | (simp only [thenQ, blockQ, ↓reduceIte]; show retQ _ _ _ _ _ .normal _ _)
  exact ⟨[], _, RVs.nil, Part.refl _, b6, by rw [List.append_nil]⟩
  skip
theorem valid_empty (cap meet : Int) : validF (Bk.empty cap meet) = if configF cap meet = true then 0 else 120 := by
  unfold validF
  by_cases h : configF cap meet = true
  · rw [if_pos h, if_pos]
    refine ⟨⟨h, Nat.zero_le _, Nat.zero_le _, ?_⟩, (by intro r hr; cases hr), ⟨(fun i hi => by cases hi), (fun i _ hi => by cases hi), (fun i _ hi => by cases hi)⟩, fun hx => hx.1 rfl⟩
    have := of_decide_eq_true h
    show ((0 : Nat) : Int) ≤ cap
    omega
  · rw [if_neg h, if_neg]
    exact fun hv => h hv.1.1
def TbNew (cap meet : Int) (u : Value) (H' : List Chunk) : Prop := if configF cap meet = true then ∃ bk mb, u = .tuple #[.pointer (some ⟨bk, 0, none⟩), .int .i64 0] ∧ H' = TS.empty.all bk mb (Bk.empty cap meet) else u = .tuple #[.pointer none, .int .i64 1] ∧ H' = []
set_option maxHeartbeats 1000000 in
set_option maxRecDepth 100000 in
theorem tbNew {w : World} {cap meet : Int} : Spec Go.Proofs.Try.prog 11 #[.agg #[.int .i64 cap, .int .i64 meet]] w [] (TbNew cap meet) := by
  have hv := valid_empty cap meet
  refine Spec.enter (fn := Go.Proofs.Try.f11) (n := 15) [.agg #[.int .i64 cap, .int .i64 meet]] Go.Proofs.Try.func11 (by kernel_rfl) rfl Go.Proofs.Try.ntmps11 Go.Proofs.Try.results11 rfl (Own.nil _) ?_
  refine JC.rs ?_
  refine Seq.box (cs := [_, _]) (k := ?_); intro b1
  refine Seq.p rfl Ev.assign ?_
  refine Seq.p rfl Ev.assign ?_
  refine Seq.nil ?_
  refine JC.seq ?_
  refine JC.rs ?_
  refine Seq.p rfl (Ev.asR (v' := .agg #[.int .i64 cap, .int .i64 meet]) (Ev.ldBA ag.api_Config) rfl) ?_
  refine Seq.p rfl (Ev.asR (v' := .agg ((Bk.empty cap meet).cells (.slice none 0 0) (.slice none 0 0)).toArray) (Ev.buildN [_, _, _, _, _, _] pl.api_Book z.api_Book) rfl) ?_
  refine Seq.callP rfl (fun w hw => rulesValid (b := Bk.empty cap meet) ⟨(by intro r hr; cases hr), (by intro r hr; cases hr), (by show 0 < _; decide), (by show 0 < _; decide)⟩ (RSl.empty _ _ _ _) (RSl.empty _ _ _ _)) ?_
  refine Seq.p rfl Ev.ne ?_
  refine Seq.nil ?_
  first | refine JC.c (ht := fun c8 => ?_) (hf := fun c8 => ?_) | refine JC.cb (ht := fun c8 => ?_) (hf := fun c8 => ?_)
  · -- then_t8
    have hc : ¬ configF cap meet = true := fun h => by rw [if_pos h] at hv; simp [hv] at c8
    refine JC.rs ?_
    refine Seq.p rfl Ev.assign ?_
    refine Seq.p rfl Ev.assign ?_
    refine Seq.nil ?_
    refine JC.ret ?_
    show retQ _ _ _ _ _ _ _ _
    refine ret2 (hp := Part.nil _) (hpost := ?_)
    unfold TbNew; rw [if_neg hc]; exact ⟨rfl, rfl⟩
  · -- else_t8
    have hc : configF cap meet = true := by
      cases h : configF cap meet with
      | true => rfl
      | false => rw [h] at hv; simp [hv] at c8
    refine JC.skip ?_
    refine JC.rs ?_
    refine Seq.p rfl (Ev.buildN [_, _, _, _, _, _, _] pl.treebook_Book z.treebook_Book) ?_
    refine Seq.box (cs := [_, _, _, _, _, _, _]) (k := ?_); intro b10
    refine Seq.p rfl Ev.assign ?_
    refine Seq.nil ?_
    refine JC.rs ?_
    refine Seq.p rfl Ev.move ?_
    refine Seq.p rfl (Ev.asR (v' := .agg #[.int .i64 cap, .int .i64 meet]) (Ev.ldBA ag.api_Config) rfl) ?_
    refine Seq.call rfl (fun w' hw => tbClear (bk := b10) (cap := cap) (meet := meet) (Part.own (by repeat (first | exact Part.nil _ | refine Part.at (by repeat (first | exact At.z | apply At.s)) ?_)) hw.own)) (Gs := [.box b10 bookT [_, _, _, _, _, _, _]]) (F := _) (Perm.at (by repeat (first | exact At.z | apply At.s)) (Perm.none _)) ?_
    rintro _ _ ⟨mb, rfl⟩
    try simp only [List.cons_append, List.nil_append, List.eraseIdx_cons_zero, List.eraseIdx_cons_succ, List.set_cons_zero, List.set_cons_succ]
    refine Seq.nil ?_
    refine JC.rs ?_
    refine Seq.p rfl Ev.move ?_
    refine Seq.p rfl Ev.assign ?_
    refine Seq.p rfl Ev.assign ?_
    refine Seq.nil ?_
    refine JC.ret ?_
    show retQ _ _ _ _ _ _ _ _
    refine ret2 (hp := (show Part (TS.empty.all b10 mb (Bk.empty cap meet)) _ from (by repeat (first | exact Part.nil _ | refine Part.at (by repeat (first | exact At.z | apply At.s)) ?_)))) (hpost := ?_)
    unfold TbNew; rw [if_pos hc]; exact ⟨b10, mb, rfl, rfl⟩

def partB (x : Bk) (i j : Nat) : Bk := ⟨x.cap, x.meet, x.buys.take i, x.sells.take j, 0, 0⟩
end Go.Rx
/- The book over trees: its levels and its best one, of any side. -/
namespace Go.Rx
open Go Go.RowKit
set_option linter.unusedVariables false
set_option linter.unusedSimpArgs false
theorem Spec.frame {P : Program} {f : FuncId} {args : Array Value} {w : World} {Gs F G : List Chunk} {Post : Value → List Chunk → Prop} (h : Spec P f args w Gs Post) (hp : (Gs ++ F).Perm G) (hO : Own w G) : Spec P f args w G (fun u H' => ∃ H'', H' = H'' ++ F ∧ Post u H'') := by
  refine ⟨h.1, h.2.mono ?_⟩
  rintro e w' ⟨u, H', rfl, hu, hpo⟩
  exact ⟨u, H' ++ F, rfl, Upd.step ((Upd.refl hO).perm hp.symm) hu, H', rfl, hpo⟩
theorem Spec.parts {P : Program} {f : FuncId} {args : Array Value} {w : World} {G : List Chunk} {Post Post' : Value → List Chunk → Prop} (h : Spec P f args w G Post) (hp : ∀ u H', Post u H' → ∃ H2, Part H2 H' ∧ Post' u H2) : Spec P f args w G Post' := by
  refine ⟨h.1, h.2.mono ?_⟩
  rintro e w' ⟨u, H', rfl, hu, hpo⟩
  obtain ⟨H2, h1, h2⟩ := hp u H' hpo
  exact ⟨u, H2, rfl, hu.part h1, h2⟩
theorem Spec.upds {P : Program} {f : FuncId} {args : Array Value} {w : World} {G : List Chunk} {Post Post' : Value → List Chunk → Prop} (h : Spec P f args w G Post) (hp : ∀ u H' w', Upd w w' G H' → Post u H' → ∃ H2, Upd w w' G H2 ∧ Post' u H2) : Spec P f args w G Post' := by
  refine ⟨h.1, h.2.mono ?_⟩
  rintro e w' ⟨u, H', rfl, hu, hpo⟩
  obtain ⟨H2, h1, h2⟩ := hp u H' w' hu hpo
  exact ⟨u, H2, rfl, h1, h2⟩
theorem depthS_less (most : Int) (h : most < 1) (l : List Rst) : depthS most [] l = [] := by
  cases l with
  | nil => rfl
  | cons r l =>
    show (if _ then _ else if ((0 : Nat) : Int) < most then _ else _) = _
    rw [if_neg (by simp), if_neg (by omega)]
theorem tbDepthT {w : World} {bk mb : Nat} {s : TS} {b : Bk} {q most : Int} (hT : TOk s b) (hl : b.live) (hO : Own w (s.all bk mb b)) :
    Spec Go.Proofs.Try.prog 22 #[.pointer (some ⟨bk, 0, none⟩), .int .i64 q, .int .i64 most] w (s.all bk mb b)
      (fun u H' => ∃ A c, u = .slice A (depthF b q most).length c ∧ H' = s.all bk mb b ++ [lvlL (.slice A (depthF b q most).length c) (depthF b q most)]) := by
  by_cases hn : q ≠ 1 ∧ q ≠ 2 ∨ most < 1
  · have hD : depthF b q most = [] := by
      unfold depthF
      rcases hn with ⟨h1, h2⟩ | h
      · have : sideF b q = [] := by unfold sideF; rw [if_neg h1, if_neg h2]
        rw [this]; rfl
      · exact depthS_less most h _
    rw [hD]
    refine ((tbDepthN (bk := bk) hn).frame (Gs := []) (F := s.all bk mb b) (List.Perm.refl _) hO).upds ?_
    rintro u H' w' hu ⟨H'', rfl, rfl⟩
    have h1 : Upd w w' (s.all bk mb b) (s.all bk mb b) := hu.part ⟨H'', List.perm_append_comm⟩
    exact ⟨s.all bk mb b ++ [lvlL (.slice none 0 0) []], (Upd.nilOwn h1 66 3).perm (List.perm_append_comm (l₁ := [lvlL (.slice none 0 0) []])), none, 0, rfl, rfl⟩
  · obtain ⟨m, hm⟩ : ∃ m : Nat, most = (m : Int) := ⟨most.toNat, by omega⟩
    subst hm
    have hq : q = 1 ∨ q = 2 := by omega
    have hD : depthF b q m = ((sideM q (s.lv q)).take m).map lvlM := by
      unfold depthF
      rw [← (hT.side hq).abs]
      refine depth_abs hq (hT.side hq).sort (hT.side hq).wf (fun l hl2 => ?_) m
      have hsm := (hT.side hq).small (fun r hr => (hl.2.2 r (by rcases hq with rfl | rfl; exact List.mem_append_left _ hr; exact List.mem_append_right _ hr)).1) (by rcases hq with rfl | rfl; exact hl.2.1.1; exact hl.2.1.2)
      have := (hsm.2 l hl2).2.1
      omega
    rw [hD]
    have hz1 := (hT.one.small (fun r hr => (hl.2.2 r (List.mem_append_left _ hr)).1) hl.2.1.1).1
    have hz2 := (hT.two.small (fun r hr => (hl.2.2 r (List.mem_append_right _ hr)).1) hl.2.1.2).1
    rcases hq with rfl | rfl
    · refine ((tbDepth1 (bk := bk) (mb := mb) (high := b.high) (seq := b.seq) (cap := b.cap) (meet := b.meet) (qa := s.t2.adr) (t := s.t1) (L := s.B) (most := m) (by omega) hT.one.tie hT.one.wf (by omega) (Part.own (by repeat (first | exact Part.nil _ | refine Part.at (by repeat (first | exact At.z | apply At.s)) ?_)) hO)).frame (Gs := [bookC bk b.cap b.meet s.t1.adr s.t2.adr mb b.high b.seq, treeC nodeT s.t1, levsC 1 s.B]) (F := _) (Perm.at (by repeat (first | exact At.z | apply At.s)) (Perm.at (by repeat (first | exact At.z | apply At.s)) (Perm.at (by repeat (first | exact At.z | apply At.s)) (Perm.none _)))) hO).parts ?_
      rintro u H' ⟨H'', rfl, A, c, rfl, rfl⟩
      exact ⟨_, (show Part (s.all bk mb b ++ [lvlL (.slice A (((sideM 1 s.B).take m).map lvlM).length c) (((sideM 1 s.B).take m).map lvlM)]) _ from by show Part (_ :: _) _; repeat (first | exact Part.nil _ | refine Part.at (by repeat (first | exact At.z | apply At.s)) ?_)), A, c, rfl, rfl⟩
    · refine ((tbDepth2 (bk := bk) (mb := mb) (high := b.high) (seq := b.seq) (cap := b.cap) (meet := b.meet) (qa := s.t1.adr) (t := s.t2) (L := s.S) (most := m) (by omega) hT.two.tie hT.two.wf (by omega) (Part.own (by repeat (first | exact Part.nil _ | refine Part.at (by repeat (first | exact At.z | apply At.s)) ?_)) hO)).frame (Gs := [bookC bk b.cap b.meet s.t1.adr s.t2.adr mb b.high b.seq, treeC nodeT s.t2, levsC 2 s.S]) (F := _) (Perm.at (by repeat (first | exact At.z | apply At.s)) (Perm.at (by repeat (first | exact At.z | apply At.s)) (Perm.at (by repeat (first | exact At.z | apply At.s)) (Perm.none _)))) hO).parts ?_
      rintro u H' ⟨H'', rfl, A, c, rfl, rfl⟩
      exact ⟨_, (show Part (s.all bk mb b ++ [lvlL (.slice A (((sideM 2 s.S).take m).map lvlM).length c) (((sideM 2 s.S).take m).map lvlM)]) _ from by show Part (_ :: _) _; repeat (first | exact Part.nil _ | refine Part.at (by repeat (first | exact At.z | apply At.s)) ?_)), A, c, rfl, rfl⟩
set_option maxHeartbeats 1000000 in
set_option maxRecDepth 100000 in
theorem tbBestL {w : World} {bk mb : Nat} {s : TS} {b : Bk} {q : Int} (hT : TOk s b) (hl : b.live) (hO : Own w (s.all bk mb b)) :
    Spec Go.Proofs.Try.prog 24 #[.pointer (some ⟨bk, 0, none⟩), .int .i64 q] w (s.all bk mb b) (fun u H' => u = .tuple #[.agg (bestF b q).1.enc.toArray, .bool (bestF b q).2] ∧ H' = s.all bk mb b) := by
  obtain ⟨l, hd⟩ : ∃ l, l = depthF b q 1 := ⟨_, rfl⟩
  have hB : bestF b q = firstL l := by rw [hd]; rfl
  have hll : l.length ≤ 1000000 := by
    have := depth_len 1 (sideF b q) []
    have h2 : (sideF b q).length ≤ 4096 := by
      unfold sideF
      split
      · exact hl.2.1.1
      · split
        · exact hl.2.1.2
        · simp
    rw [hd]
    unfold depthF
    simp at this
    omega
  refine Spec.enter (fn := Go.Proofs.Try.f24) (n := 17) [.pointer (some ⟨bk, 0, none⟩), .int .i64 q] Go.Proofs.Try.func24 (by kernel_rfl) rfl Go.Proofs.Try.ntmps24 Go.Proofs.Try.results24 rfl hO ?_
  refine JC.rs ?_
  refine Seq.alloc (cs := [_, _, _]) (hz := z.api_Level) (k := ?_); intro b4
  refine Seq.p rfl Ev.assign ?_
  refine Seq.nil ?_
  refine JC.rs ?_
  refine Seq.p rfl Ev.move ?_
  refine Seq.p rfl Ev.move ?_
  refine Seq.call rfl (fun w' hw => tbDepthT (most := 1) hT hl (Part.own (by repeat (first | exact Part.nil _ | refine Part.at (by repeat (first | exact At.z | apply At.s)) ?_)) hw.own)) (Gs := s.all bk mb b) (F := _) (Perm.at (by repeat (first | exact At.z | apply At.s)) (Perm.at (by repeat (first | exact At.z | apply At.s)) (Perm.at (by repeat (first | exact At.z | apply At.s)) (Perm.at (by repeat (first | exact At.z | apply At.s)) (Perm.at (by repeat (first | exact At.z | apply At.s)) (Perm.at (by repeat (first | exact At.z | apply At.s)) (Perm.none _))))))) ?_
  rintro _ _ ⟨A9, c9, rfl, rfl⟩
  rw [← hd]
  try simp only [List.cons_append, List.nil_append, List.eraseIdx_cons_zero, List.eraseIdx_cons_succ]
  refine Seq.p rfl Ev.assign ?_
  refine Seq.nil ?_
  refine JC.seq ?_
  refine JC.rs ?_
  refine Seq.p rfl Ev.move ?_
  refine Seq.p rfl (Ev.lenH sl.sl_api_Level) ?_
  refine Seq.p rfl Ev.eq ?_
  refine Seq.nil ?_
  first | refine JC.c (ht := fun c12 => ?_) (hf := fun c12 => ?_) | refine JC.cb (ht := fun c12 => ?_) (hf := fun c12 => ?_)
  · -- then_t12
    have hn : l = [] := List.eq_nil_of_length_eq_zero (by omega)
    refine JC.rs ?_
    refine Seq.p rfl (Ev.buildN [_, _, _] pl.api_Level z.api_Level) ?_
    refine Seq.storeN [_, _, _] sz.api_Level (k := ?_)
    refine Seq.p rfl Ev.assign ?_
    refine Seq.nil ?_
    refine JC.ret ?_
    show retQ _ _ _ _ _ _ _ _
    refine retB2 ag.api_Level (hp := (show Part (s.all bk mb b) _ from by show Part (_ :: _) _; repeat (first | exact Part.nil _ | refine Part.at (by repeat (first | exact At.z | apply At.s)) ?_))) (hpost := ?_)
    rw [hB, hn]; exact ⟨rfl, rfl⟩
  · -- else_t12
    have h0 : 0 < l.length := by omega
    refine JC.skip ?_
    refine JC.rs ?_
    refine Seq.p rfl Ev.move ?_
    refine Seq.p rfl (Ev.iaN sl.sl_api_Level (i := 0) (hr := (RAt.own (enc := Lvl.enc) (v := .slice A9 l.length c9) (xs := l) (hs := by omega))) (hi := by omega)) ?_
    refine Seq.p rfl (Ev.ldEA ag.api_Level (i := 0) (hr := (RAt.own (enc := Lvl.enc) (v := .slice A9 l.length c9) (xs := l) (hs := by omega))) (hi := by omega)) ?_
    refine Seq.storeN [_, _, _] sz.api_Level (k := ?_)
    refine Seq.p rfl Ev.assign ?_
    refine Seq.nil ?_
    refine JC.ret ?_
    show retQ _ _ _ _ _ _ _ _
    refine retB2 ag.api_Level (hp := (show Part (s.all bk mb b) _ from by show Part (_ :: _) _; repeat (first | exact Part.nil _ | refine Part.at (by repeat (first | exact At.z | apply At.s)) ?_))) (hpost := ?_)
    rw [hB]; obtain ⟨y, r, rfl⟩ := List.exists_cons_of_ne_nil (List.length_pos_iff.1 h0); exact ⟨rfl, rfl⟩
end Go.Rx
/- The document's book stays one that can be, whatever is done (plain). -/
namespace Go.Rx
open Go Go.RowKit
set_option linter.unusedVariables false
set_option linter.unusedSimpArgs false
structure BOk (b : Bk) : Prop where
  valid : validP b
  mem : ∀ r ∈ b.buys ++ b.sells, r.member < 4294967296
  high : b.high < 18446744073709551616
  seq : b.seq < 18446744073709551616
def Gd (h : Nat) (r : Rst) : Prop := orderF r h = true ∧ r.member < 4294967296
theorem Gd.parts {h : Nat} {r : Rst} (g : Gd h r) : (1 ≤ r.id ∧ r.id ≤ h ∧ (r.type = 1 ∨ r.type = 5) ∧ 0 ≤ r.price ∧ r.price < 262144) ∧ (1 ≤ r.vis ∧ r.vis ≤ 4294967295 ∧ r.peak ≤ 4294967295 ∧ r.hid ≤ 4294967295 ∧ r.vis + r.hid ≤ 4294967295) ∧ (if r.peak = 0 then r.hid = 0 else r.vis ≤ r.peak ∧ r.vis + r.hid ≤ 256 * r.peak) := of_decide_eq_true g.1
theorem Gd.mk' {h : Nat} {r : Rst} (h1 : 1 ≤ r.id ∧ r.id ≤ h ∧ (r.type = 1 ∨ r.type = 5) ∧ 0 ≤ r.price ∧ r.price < 262144) (h2 : 1 ≤ r.vis ∧ r.vis ≤ 4294967295 ∧ r.peak ≤ 4294967295 ∧ r.hid ≤ 4294967295 ∧ r.vis + r.hid ≤ 4294967295) (h3 : if r.peak = 0 then r.hid = 0 else r.vis ≤ r.peak ∧ r.vis + r.hid ≤ 256 * r.peak) (hm : r.member < 4294967296) : Gd h r := ⟨decide_eq_true ⟨h1, h2, h3⟩, hm⟩
theorem Gd.up {h h' : Nat} {r : Rst} (g : Gd h r) (hh : h ≤ h') : Gd h' r := by
  obtain ⟨⟨a, b, c⟩, d, e⟩ := g.parts
  exact Gd.mk' ⟨a, by omega, c⟩ d e g.2
theorem BOk.gd {b : Bk} (h : BOk b) : ∀ r ∈ b.buys ++ b.sells, Gd b.high r := fun r hr => ⟨h.valid.2.1 r hr, h.mem r hr⟩
theorem BOk.ids {b : Bk} (h : BOk b) : ∀ r ∈ b.buys ++ b.sells, r.id ≤ b.high := fun r hr => (h.gd r hr).parts.1.2.1
theorem Gd.live {h : Nat} {r : Rst} (g : Gd h r) : r.live := by
  obtain ⟨a, d, e⟩ := g.parts
  refine ⟨d.1, d.2.2.2.2, d.2.2.1, fun hp => by rw [if_pos hp] at e; exact e, fun hp => ?_⟩
  rw [if_neg hp] at e
  omega
theorem Gd.fits {h : Nat} {r : Rst} (g : Gd h r) (hh : h < 18446744073709551616) : r.fits := by
  obtain ⟨a, d, e⟩ := g.parts
  exact ⟨by omega, g.2, by omega, by omega, by omega⟩
theorem BOk.fits {b : Bk} (h : BOk b) : b.fits := ⟨fun r hr => (h.gd r (List.mem_append_left _ hr)).fits h.high, fun r hr => (h.gd r (List.mem_append_right _ hr)).fits h.high, h.high, h.seq⟩
theorem BOk.cfg {b : Bk} (h : BOk b) : 1 ≤ b.cap ∧ b.cap ≤ 4096 ∧ 0 ≤ b.meet ∧ b.meet ≤ 3 := of_decide_eq_true h.valid.1.1
theorem BOk.live {b : Bk} (h : BOk b) : b.live := by
  have := h.cfg
  exact ⟨⟨by omega, by omega⟩, ⟨h.valid.1.2.1, h.valid.1.2.2.1⟩, fun r hr => ⟨(h.gd r hr).live, (h.gd r hr).fits h.high⟩⟩
def NoX (b : Bk) : Prop := ∀ r ∈ b.buys, ∀ q ∈ b.sells, r.price < q.price
theorem TOk.sorted {s : TS} {b : Bk} (h : TOk s b) {q : Int} (hq : q = 1 ∨ q = 2) : sortedP q (sideF b q) := by
  have hp : (sideF b q).Pairwise fun x y => betterF q y.price x.price = false := by
    rw [← (h.side hq).abs, abs_sideM]
    have hso := sideM_sort (h.side hq).sort hq
    have hw := (h.side hq).wf
    have hmem : ∀ l ∈ sideM q (s.lv q), ∀ o ∈ l.os, o.r.price = l.price := fun l hl => (hw l (sideM_mem.1 hl)).2
    generalize sideM q (s.lv q) = M at hso hmem
    induction M with
    | nil => exact List.Pairwise.nil
    | cons l M ih =>
      rw [List.flatMap_cons]
      rw [List.map_cons, List.pairwise_cons] at hso
      refine List.pairwise_append.2 ⟨?_, ih hso.2 (fun x hx => hmem x (List.mem_cons_of_mem _ hx)), ?_⟩
      · refine List.pairwise_of_forall_mem_list ?_
        intro x hx y hy
        obtain ⟨a, ha, rfl⟩ := List.mem_map.1 hx
        obtain ⟨c, hc, rfl⟩ := List.mem_map.1 hy
        rw [hmem l List.mem_cons_self a ha, hmem l List.mem_cons_self c hc]
        exact better_self _ _
      · intro x hx y hy
        obtain ⟨a, ha, rfl⟩ := List.mem_map.1 hx
        obtain ⟨l2, hl2, hy2⟩ := List.mem_flatMap.1 hy
        obtain ⟨c, hc, rfl⟩ := List.mem_map.1 hy2
        rw [hmem l List.mem_cons_self a ha, hmem l2 (List.mem_cons_of_mem _ hl2) c hc]
        have := hso.1 l2.price (List.mem_map_of_mem hl2)
        unfold betterF at this ⊢
        rcases hq with rfl | rfl
        · rw [if_pos rfl] at this ⊢
          simp only [decide_eq_true_eq, decide_eq_false_iff_not] at this ⊢
          omega
        · rw [if_neg (by decide)] at this ⊢
          simp only [decide_eq_true_eq, decide_eq_false_iff_not] at this ⊢
          omega
  intro i h1 h2
  have := List.pairwise_iff_getElem.1 hp (i - 1) i (by omega) h2 (by omega)
  rwa [getElem!_pos _ i h2, getElem!_pos _ (i - 1) (by omega)]
end Go.Rx
/- The document's book stays one that can be: what comes; a whole command (plain). -/
namespace Go.Rx
open Go Go.RowKit
set_option linter.unusedVariables false
set_option linter.unusedSimpArgs false
structure Half (h cap : Nat) (b : Bk) : Prop where
  gd : ∀ r ∈ b.buys ++ b.sells, Gd h r
  nox : NoX b
  len : b.buys.length + b.sells.length ≤ cap
theorem Half.seq {h cap : Nat} {b : Bk} (x : Half h cap b) (n : Nat) : Half h cap { b with seq := n } := ⟨x.gd, x.nox, x.len⟩
end Go.Rx
/- The document's book stays one that can be: a whole command (plain). -/
namespace Go.Rx
open Go Go.RowKit
set_option linter.unusedVariables false
set_option linter.unusedSimpArgs false
end Go.Rx
/- The law's own words: lists held against each other; prices; flat trees. -/
namespace Go.Rx
open Go Go.RowKit
set_option linter.unusedVariables false
set_option linter.unusedSimpArgs false
theorem list_eq_get {α : Type} [Inhabited α] (xs ys : List α) (h : xs.length = ys.length) : xs = ys ↔ ∀ j, j < xs.length → xs[j]! = ys[j]! := by
  constructor
  · rintro rfl _ _; rfl
  · intro hg
    refine List.ext_getElem h (fun i h1 h2 => ?_)
    have := hg i h1
    rwa [getElem!_pos xs i h1, getElem!_pos ys i h2] at this
set_option maxHeartbeats 1000000 in
theorem sameOrders {w : World} {va vb : Value} {xs ys : List Rst} (ha : RSl Rst.enc 7 w [] va xs) (hb : RSl Rst.enc 7 w [] vb ys) :
    Spec Go.Proofs.Try.prog 45 #[va, vb] w [] (fun u _ => u = .bool (decide (xs = ys))) := by
  have ha1 := ha.small
  have hb1 := hb.small
  refine Spec.enter (fn := Go.Proofs.Try.f45) (n := 26) [va, vb] Go.Proofs.Try.func45 (by kernel_rfl) rfl Go.Proofs.Try.ntmps45 Go.Proofs.Try.results45 rfl (Own.nil _) ?_
  refine JC.rs ?_
  refine Seq.p rfl Ev.assign ?_
  refine Seq.nil ?_
  refine JC.seq ?_
  refine JC.rs ?_
  refine Seq.p rfl Ev.move ?_
  refine Seq.p rfl (Ev.lenSl sl.sl_api_Resting (hr := ha.r)) ?_
  refine Seq.p rfl Ev.move ?_
  refine Seq.p rfl (Ev.lenSl sl.sl_api_Resting (hr := hb.r)) ?_
  refine Seq.p rfl Ev.ne ?_
  refine Seq.nil ?_
  first | refine JC.c (ht := fun c10 => ?_) (hf := fun c10 => ?_) | refine JC.cb (ht := fun c10 => ?_) (hf := fun c10 => ?_)
  · -- then_t10
    refine JC.rs ?_
    refine Seq.p rfl Ev.assign ?_
    refine Seq.nil ?_
    refine JC.ret ?_
    show retQ _ _ _ _ _ _ _ _
    refine ret1 (hp := Part.nil _) (hpost := ?_)
    rw [decide_eq_false (fun h => c10 (by rw [h]))]
  · -- else_t10
    have hlen : xs.length = ys.length := by omega
    refine JC.skip ?_
    refine JC.seq ?_
    refine JC.rs ?_
    refine Seq.p rfl Ev.assign ?_
    refine Seq.nil ?_
    refine JC.blk ?_
    refine JC.loop (α := Nat) (I := fun i e1 H1 => Has [4, 5, 11, 12, 13, 14, 15, 16, 17, 18, 19, 20, 21, 22, 23, 24, 25] [(5, .int .i64 (i : Int))] _ e1 ∧ H1 = [] ∧ i ≤ xs.length ∧ ∀ j, j < i → xs[j]! = ys[j]!) (μ := fun i => xs.length - i) 0 ⟨Has.mk Off.refl (allLook_cons (by repeat (first | exact Look.here | apply Look.there (hne := rfl) | exact Look.const | apply Look.mix rfl | exact Look.arg0 | apply Look.args | exact Look.func)) allLook_nil), rfl, by omega, fun j h => by omega⟩ ?_
    rintro i _ _ ⟨⟨u, rfl⟩, rfl, hi, hlt⟩; dsimp only [setL]
    refine JC.seq ?_
    refine JC.rs ?_
    refine Seq.p rfl Ev.move ?_
    refine Seq.p rfl Ev.move ?_
    refine Seq.p rfl (Ev.lenSl sl.sl_api_Resting (hr := ha.r)) ?_
    refine Seq.p rfl Ev.lt ?_
    refine Seq.nil ?_
    first | refine JC.c (ht := fun c14 => ?_) (hf := fun c14 => ?_) | refine JC.cb (ht := fun c14 => ?_) (hf := fun c14 => ?_)
    · -- then_t14
      have hi2 : i < xs.length := by omega
      refine JC.skip ?_
      refine JC.seq ?_
      refine JC.blk ?_
      refine JC.qs mixed (by kernel_rfl) ?_
      refine Qui.p rfl Ev.move ?_
      refine Qui.p rfl Ev.move ?_
      refine Qui.p rfl (Ev.iaN sl.sl_api_Resting (hr := ha.r)) ?_
      refine Qui.p rfl (Ev.ldEA ag.api_Resting (hr := ha.r)) ?_
      refine Qui.p rfl Ev.move ?_
      refine Qui.p rfl Ev.move ?_
      refine Qui.p rfl (Ev.iaN sl.sl_api_Resting (hr := hb.r)) ?_
      refine Qui.p rfl (Ev.ldEA ag.api_Resting (hr := hb.r)) ?_
      refine Qui.p rfl (Ev.as (v' := .bool (!(decide (xs[i]! = ys[i]!)))) (by rw [← Rst.eqL_enc]) (Ev.neAg (xs := xs[i]!.enc) (ys := ys[i]!.enc) so.api_Resting ag.api_Resting gd.api_Resting)) ?_
      refine Qui.nil ?_
      first | refine JC.c (ht := fun c25 => ?_) (hf := fun c25 => ?_) | refine JC.cb (ht := fun c25 => ?_) (hf := fun c25 => ?_)
      · -- then_t25
        have hne : ¬ xs = ys := fun h => by rw [h] at c25; simp at c25
        refine JC.rs ?_
        refine Seq.p rfl Ev.assign ?_
        refine Seq.nil ?_
        refine JC.ret ?_
        show retQ _ _ _ _ _ _ _ _
        refine ret1 (hp := Part.nil _) (hpost := ?_)
        rw [decide_eq_false hne]
      · -- else_t25
        have heq : xs[i]! = ys[i]! := by simpa using c25
        refine JC.skip ?_
        refine JC.reg ?_
        refine Seq.p rfl Ev.move ?_
        refine Seq.p rfl (by first | exact Ev.inc | exact Ev.add) ?_
        refine Seq.p rfl Ev.assign ?_
        refine Seq.nil ?_
        refine ⟨i + 1, _, Part.refl _, ⟨Has.mk (by repeat (first | refine Off.upd ?_ rfl | exact Off.mix | refine Off.mix2 ?_ rfl | exact Off.refl)) (allLook_cons (by repeat (first | exact Look.here | apply Look.there (hne := rfl) | exact Look.const | apply Look.mix rfl | exact Look.arg0 | apply Look.args | exact Look.func)) allLook_nil), rfl, by omega, fun j hj => ?_⟩, by omega⟩
        by_cases h : j = i
        · rw [h, heq]
        · exact hlt j (by omega)
    · -- else_t14
      have h9 := (list_eq_get xs ys hlen).2 (fun j hj => hlt j (by omega))
      refine JC.exit ?_ -- 0
      refine JC.rs ?_
      refine Seq.p rfl Ev.assign ?_
      refine Seq.nil ?_
      refine JC.ret ?_
      show retQ _ _ _ _ _ _ _ _
      refine ret1 (hp := Part.nil _) (hpost := ?_)
      rw [decide_eq_true h9]
set_option maxHeartbeats 1000000 in
theorem sameLevels {w : World} {va vb : Value} {xs ys : List Lvl} (ha : RSl Lvl.enc 3 w [] va xs) (hb : RSl Lvl.enc 3 w [] vb ys) :
    Spec Go.Proofs.Try.prog 21 #[va, vb] w [] (fun u _ => u = .bool (decide (xs = ys))) := by
  have ha1 := ha.small
  have hb1 := hb.small
  refine Spec.enter (fn := Go.Proofs.Try.f21) (n := 26) [va, vb] Go.Proofs.Try.func21 (by kernel_rfl) rfl Go.Proofs.Try.ntmps21 Go.Proofs.Try.results21 rfl (Own.nil _) ?_
  refine JC.rs ?_
  refine Seq.p rfl Ev.assign ?_
  refine Seq.nil ?_
  refine JC.seq ?_
  refine JC.rs ?_
  refine Seq.p rfl Ev.move ?_
  refine Seq.p rfl (Ev.lenSl sl.sl_api_Level (hr := ha.r)) ?_
  refine Seq.p rfl Ev.move ?_
  refine Seq.p rfl (Ev.lenSl sl.sl_api_Level (hr := hb.r)) ?_
  refine Seq.p rfl Ev.ne ?_
  refine Seq.nil ?_
  first | refine JC.c (ht := fun c10 => ?_) (hf := fun c10 => ?_) | refine JC.cb (ht := fun c10 => ?_) (hf := fun c10 => ?_)
  · -- then_t10
    refine JC.rs ?_
    refine Seq.p rfl Ev.assign ?_
    refine Seq.nil ?_
    refine JC.ret ?_
    show retQ _ _ _ _ _ _ _ _
    refine ret1 (hp := Part.nil _) (hpost := ?_)
    rw [decide_eq_false (fun h => c10 (by rw [h]))]
  · -- else_t10
    have hlen : xs.length = ys.length := by omega
    refine JC.skip ?_
    refine JC.seq ?_
    refine JC.rs ?_
    refine Seq.p rfl Ev.assign ?_
    refine Seq.nil ?_
    refine JC.blk ?_
    refine JC.loop (α := Nat) (I := fun i e1 H1 => Has [4, 5, 11, 12, 13, 14, 15, 16, 17, 18, 19, 20, 21, 22, 23, 24, 25] [(5, .int .i64 (i : Int))] _ e1 ∧ H1 = [] ∧ i ≤ xs.length ∧ ∀ j, j < i → xs[j]! = ys[j]!) (μ := fun i => xs.length - i) 0 ⟨Has.mk Off.refl (allLook_cons (by repeat (first | exact Look.here | apply Look.there (hne := rfl) | exact Look.const | apply Look.mix rfl | exact Look.arg0 | apply Look.args | exact Look.func)) allLook_nil), rfl, by omega, fun j h => by omega⟩ ?_
    rintro i _ _ ⟨⟨u, rfl⟩, rfl, hi, hlt⟩; dsimp only [setL]
    refine JC.seq ?_
    refine JC.rs ?_
    refine Seq.p rfl Ev.move ?_
    refine Seq.p rfl Ev.move ?_
    refine Seq.p rfl (Ev.lenSl sl.sl_api_Level (hr := ha.r)) ?_
    refine Seq.p rfl Ev.lt ?_
    refine Seq.nil ?_
    first | refine JC.c (ht := fun c14 => ?_) (hf := fun c14 => ?_) | refine JC.cb (ht := fun c14 => ?_) (hf := fun c14 => ?_)
    · -- then_t14
      have hi2 : i < xs.length := by omega
      refine JC.skip ?_
      refine JC.seq ?_
      refine JC.blk ?_
      refine JC.qs mixed (by kernel_rfl) ?_
      refine Qui.p rfl Ev.move ?_
      refine Qui.p rfl Ev.move ?_
      refine Qui.p rfl (Ev.iaN sl.sl_api_Level (hr := ha.r)) ?_
      refine Qui.p rfl (Ev.ldEA ag.api_Level (hr := ha.r)) ?_
      refine Qui.p rfl Ev.move ?_
      refine Qui.p rfl Ev.move ?_
      refine Qui.p rfl (Ev.iaN sl.sl_api_Level (hr := hb.r)) ?_
      refine Qui.p rfl (Ev.ldEA ag.api_Level (hr := hb.r)) ?_
      refine Qui.p rfl (Ev.as (v' := .bool (!(decide (xs[i]! = ys[i]!)))) (by rw [← Lvl.eqL_enc]) (Ev.neAg (xs := xs[i]!.enc) (ys := ys[i]!.enc) so.api_Level ag.api_Level gd.api_Level)) ?_
      refine Qui.nil ?_
      first | refine JC.c (ht := fun c25 => ?_) (hf := fun c25 => ?_) | refine JC.cb (ht := fun c25 => ?_) (hf := fun c25 => ?_)
      · -- then_t25
        have hne : ¬ xs = ys := fun h => by rw [h] at c25; simp at c25
        refine JC.rs ?_
        refine Seq.p rfl Ev.assign ?_
        refine Seq.nil ?_
        refine JC.ret ?_
        show retQ _ _ _ _ _ _ _ _
        refine ret1 (hp := Part.nil _) (hpost := ?_)
        rw [decide_eq_false hne]
      · -- else_t25
        have heq : xs[i]! = ys[i]! := by simpa using c25
        refine JC.skip ?_
        refine JC.reg ?_
        refine Seq.p rfl Ev.move ?_
        refine Seq.p rfl (by first | exact Ev.inc | exact Ev.add) ?_
        refine Seq.p rfl Ev.assign ?_
        refine Seq.nil ?_
        refine ⟨i + 1, _, Part.refl _, ⟨Has.mk (by repeat (first | refine Off.upd ?_ rfl | exact Off.mix | refine Off.mix2 ?_ rfl | exact Off.refl)) (allLook_cons (by repeat (first | exact Look.here | apply Look.there (hne := rfl) | exact Look.const | apply Look.mix rfl | exact Look.arg0 | apply Look.args | exact Look.func)) allLook_nil), rfl, by omega, fun j hj => ?_⟩, by omega⟩
        by_cases h : j = i
        · rw [h, heq]
        · exact hlt j (by omega)
    · -- else_t14
      have h9 := (list_eq_get xs ys hlen).2 (fun j hj => hlt j (by omega))
      refine JC.exit ?_ -- 0
      refine JC.rs ?_
      refine Seq.p rfl Ev.assign ?_
      refine Seq.nil ?_
      refine JC.ret ?_
      show retQ _ _ _ _ _ _ _ _
      refine ret1 (hp := Part.nil _) (hpost := ?_)
      rw [decide_eq_true h9]
set_option maxHeartbeats 2000000 in
set_option maxRecDepth 100000 in
theorem sameBookT {w : World} {va vb vc vd : Value} {b : Bk} (ha : RSl Rst.enc 7 w [] va b.buys) (hb : RSl Rst.enc 7 w [] vb b.sells) (hc : RSl Rst.enc 7 w [] vc b.buys) (hd : RSl Rst.enc 7 w [] vd b.sells) :
    Spec Go.Proofs.Try.prog 33 #[.agg (b.cells va vb).toArray, .agg (b.cells vc vd).toArray] w [] (fun u _ => u = .bool true) := by
  refine Spec.enter (fn := Go.Proofs.Try.f33) (n := 38) [.agg (b.cells va vb).toArray, .agg (b.cells vc vd).toArray] Go.Proofs.Try.func33 (by kernel_rfl) rfl Go.Proofs.Try.ntmps33 Go.Proofs.Try.results33 rfl (Own.nil _) ?_
  refine JC.rs ?_
  refine Seq.box (cs := [_, _, _, _, _, _]) (k := ?_); intro b2
  refine Seq.box (cs := [_, _, _, _, _, _]) (k := ?_); intro b3
  refine Seq.p rfl Ev.assign ?_
  refine Seq.nil ?_
  refine JC.rs ?_
  refine Seq.p rfl (Ev.faB fd.api_Book_0) ?_
  refine Seq.p rfl (Ev.ldBPN [.int .i64 b.cap, .int .i64 b.meet] ag.api_Config) ?_
  refine Seq.p rfl (Ev.faB fd.api_Book_0) ?_
  refine Seq.p rfl (Ev.ldBPN [.int .i64 b.cap, .int .i64 b.meet] ag.api_Config) ?_
  refine Seq.p rfl (Ev.as (v' := .bool true) (by simp [eqL, eqV]) (Ev.eqAg (xs := [.int .i64 b.cap, .int .i64 b.meet]) (ys := [.int .i64 b.cap, .int .i64 b.meet]) so.api_Config ag.api_Config gd.api_Config)) ?_
  refine Seq.p rfl Ev.move ?_
  refine Seq.andG (D := [10, 11, 12, 13, 14, 15, 16]) (d := 10) (t := 16) (k := 6) (hn := fun h10 => ?_) (hx := ?_)
  · repeat (first | refine Seq.gn rfl rfl rfl rfl ?_ | refine Seq.gu rfl rfl rfl ?_)
    refine Seq.p rfl Ev.pickF ?_
    exact Seq.nil ⟨rfl, (by repeat (first | with_reducible exact Off.refl | refine Off.upd ?_ rfl | exact Off.mix | refine Off.mix2 ?_ rfl)), Look.here⟩
  apply Exists.intro
  refine ⟨fun h10 => ?_, fun u16 => ?_⟩
  · try simp only [decide_eq_true_eq, decide_eq_false_iff_not, Bool.and_eq_true, Bool.or_eq_true, Bool.not_eq_true', Bool.not_eq_false', Bool.or_eq_false_iff, Bool.and_eq_false_imp] at h10
    refine Seq.gy rfl rfl rfl ?_
    refine Seq.p rfl (Ev.faB fd.api_Book_3) ?_
    refine Seq.gy rfl rfl rfl ?_
    refine Seq.p rfl (Ev.ldB sc.uint64) ?_
    refine Seq.gy rfl rfl rfl ?_
    refine Seq.p rfl (Ev.faB fd.api_Book_3) ?_
    refine Seq.gy rfl rfl rfl ?_
    refine Seq.p rfl (Ev.ldB sc.uint64) ?_
    refine Seq.gy rfl rfl rfl ?_
    refine Seq.p rfl Ev.eq ?_
    refine Seq.p rfl Ev.pickT ?_
    exact Seq.nil ⟨rfl, (by repeat (first | with_reducible exact Off.refl | refine Off.upd ?_ rfl | exact Off.mix | refine Off.mix2 ?_ rfl)), Look.here⟩
  refine Seq.p rfl Ev.move ?_
  refine Seq.andG (D := [17, 18, 19, 20, 21, 22, 23]) (d := 17) (t := 23) (k := 6) (hn := fun h17 => ?_) (hx := ?_)
  · repeat (first | refine Seq.gn rfl rfl rfl rfl ?_ | refine Seq.gu rfl rfl rfl ?_)
    refine Seq.p rfl Ev.pickF ?_
    exact Seq.nil ⟨rfl, (by repeat (first | with_reducible exact Off.refl | refine Off.upd ?_ rfl | exact Off.mix | refine Off.mix2 ?_ rfl)), Look.here⟩
  apply Exists.intro
  refine ⟨fun h17 => ?_, fun u23 => ?_⟩
  · try simp only [decide_eq_true_eq, decide_eq_false_iff_not, Bool.and_eq_true, Bool.or_eq_true, Bool.not_eq_true', Bool.not_eq_false', Bool.or_eq_false_iff, Bool.and_eq_false_imp] at h17
    refine Seq.gy rfl rfl rfl ?_
    refine Seq.p rfl (Ev.faB fd.api_Book_4) ?_
    refine Seq.gy rfl rfl rfl ?_
    refine Seq.p rfl (Ev.ldB sc.uint64) ?_
    refine Seq.gy rfl rfl rfl ?_
    refine Seq.p rfl (Ev.faB fd.api_Book_4) ?_
    refine Seq.gy rfl rfl rfl ?_
    refine Seq.p rfl (Ev.ldB sc.uint64) ?_
    refine Seq.gy rfl rfl rfl ?_
    refine Seq.p rfl Ev.eq ?_
    refine Seq.p rfl Ev.pickT ?_
    exact Seq.nil ⟨rfl, (by repeat (first | with_reducible exact Off.refl | refine Off.upd ?_ rfl | exact Off.mix | refine Off.mix2 ?_ rfl)), Look.here⟩
  refine Seq.p rfl Ev.move ?_
  refine Seq.andG (D := [24, 25, 26, 27, 28, 29, 30]) (d := 24) (t := 30) (k := 6) (hn := fun h24 => ?_) (hx := ?_)
  · repeat (first | refine Seq.gn rfl rfl rfl rfl ?_ | refine Seq.gu rfl rfl rfl ?_)
    refine Seq.p rfl Ev.pickF ?_
    exact Seq.nil ⟨rfl, (by repeat (first | with_reducible exact Off.refl | refine Off.upd ?_ rfl | exact Off.mix | refine Off.mix2 ?_ rfl)), Look.here⟩
  apply Exists.intro
  refine ⟨fun h24 => ?_, fun u30 => ?_⟩
  · try simp only [decide_eq_true_eq, decide_eq_false_iff_not, Bool.and_eq_true, Bool.or_eq_true, Bool.not_eq_true', Bool.not_eq_false', Bool.or_eq_false_iff, Bool.and_eq_false_imp] at h24
    refine Seq.gy rfl rfl rfl ?_
    refine Seq.p rfl (Ev.faB fd.api_Book_1) ?_
    refine Seq.gy rfl rfl rfl ?_
    refine Seq.p rfl (Ev.ldB sc.sl_api_Resting) ?_
    refine Seq.gy rfl rfl rfl ?_
    refine Seq.p rfl (Ev.faB fd.api_Book_1) ?_
    refine Seq.gy rfl rfl rfl ?_
    refine Seq.p rfl (Ev.ldB sc.sl_api_Resting) ?_
    refine Seq.gy rfl rfl rfl ?_
    refine Seq.callP rfl (fun w' hw => by have h := sameOrders (xs := b.buys) (ys := b.buys) (ha.up hw) (hc.up hw); rw [decide_eq_true rfl] at h; exact h) ?_
    refine Seq.p rfl Ev.pickT ?_
    exact Seq.nil ⟨rfl, (by repeat (first | with_reducible exact Off.refl | refine Off.upd ?_ rfl | exact Off.mix | refine Off.mix2 ?_ rfl)), Look.here⟩
  refine Seq.p rfl Ev.move ?_
  refine Seq.andG (D := [31, 32, 33, 34, 35, 36, 37]) (d := 31) (t := 37) (k := 6) (hn := fun h31 => ?_) (hx := ?_)
  · repeat (first | refine Seq.gn rfl rfl rfl rfl ?_ | refine Seq.gu rfl rfl rfl ?_)
    refine Seq.p rfl Ev.pickF ?_
    exact Seq.nil ⟨rfl, (by repeat (first | with_reducible exact Off.refl | refine Off.upd ?_ rfl | exact Off.mix | refine Off.mix2 ?_ rfl)), Look.here⟩
  apply Exists.intro
  refine ⟨fun h31 => ?_, fun u37 => ?_⟩
  · try simp only [decide_eq_true_eq, decide_eq_false_iff_not, Bool.and_eq_true, Bool.or_eq_true, Bool.not_eq_true', Bool.not_eq_false', Bool.or_eq_false_iff, Bool.and_eq_false_imp] at h31
    refine Seq.gy rfl rfl rfl ?_
    refine Seq.p rfl (Ev.faB fd.api_Book_2) ?_
    refine Seq.gy rfl rfl rfl ?_
    refine Seq.p rfl (Ev.ldB sc.sl_api_Resting) ?_
    refine Seq.gy rfl rfl rfl ?_
    refine Seq.p rfl (Ev.faB fd.api_Book_2) ?_
    refine Seq.gy rfl rfl rfl ?_
    refine Seq.p rfl (Ev.ldB sc.sl_api_Resting) ?_
    refine Seq.gy rfl rfl rfl ?_
    refine Seq.callP rfl (fun w' hw => by have h := sameOrders (xs := b.sells) (ys := b.sells) (hb.up hw) (hd.up hw); rw [decide_eq_true rfl] at h; exact h) ?_
    refine Seq.p rfl Ev.pickT ?_
    exact Seq.nil ⟨rfl, (by repeat (first | with_reducible exact Off.refl | refine Off.upd ?_ rfl | exact Off.mix | refine Off.mix2 ?_ rfl)), Look.here⟩
  refine Seq.p rfl Ev.assign ?_
  refine Seq.nil ?_
  refine JC.ret ?_
  show retQ _ _ _ _ _ _ _ _
  refine ret1 (hp := Part.nil _) (hpost := ?_)
  simp
end Go.Rx
/- The law's own words: prices; flat trees. -/
namespace Go.Rx
open Go Go.RowKit
set_option linter.unusedVariables false
set_option linter.unusedSimpArgs false
def pricesF : Option Int → List Rst → Nat
  | _, [] => 0
  | p, r :: l => (if p = some r.price then 0 else 1) + pricesF (some r.price) l
theorem prices_level (p : Int) : ∀ (ys : List OrdA) (rest : List Rst), (∀ o ∈ ys, o.r.price = p) → pricesF (some p) (ys.map (fun o => o.r) ++ rest) = pricesF (some p) rest
  | [], rest, _ => rfl
  | o :: ys, rest, h => by
    have h1 := h o List.mem_cons_self
    show (if some p = some o.r.price then 0 else 1) + pricesF (some o.r.price) (ys.map (fun o => o.r) ++ rest) = _
    rw [h1, if_pos rfl, prices_level p ys rest (fun x hx => h x (List.mem_cons_of_mem _ hx)), Nat.zero_add]
theorem prices_levels : ∀ (M : List LevA) (p : Option Int), (∀ l ∈ M, l.os ≠ [] ∧ ∀ o ∈ l.os, o.r.price = l.price) → (M.map LevA.price).Pairwise (fun a b => a ≠ b) → (∀ l ∈ M, p ≠ some l.price) → pricesF p (M.flatMap LevA.rs) = M.length
  | [], _, _, _, _ => rfl
  | l :: M, p, hM, hp, hr => by
    obtain ⟨h1, h2⟩ := hM l List.mem_cons_self
    obtain ⟨o, ys, hos⟩ := List.exists_cons_of_ne_nil h1
    have hop := h2 o (by rw [hos]; exact List.mem_cons_self)
    rw [List.flatMap_cons, show l.rs = o.r :: ys.map (fun o => o.r) by simp [LevA.rs, hos], List.cons_append]
    show (if p = some o.r.price then 0 else 1) + pricesF (some o.r.price) (ys.map (fun o => o.r) ++ M.flatMap LevA.rs) = _
    rw [hop, if_neg (hr l List.mem_cons_self), prices_level l.price ys _ (fun x hx => h2 x (by rw [hos]; exact List.mem_cons_of_mem _ hx)), prices_levels M (some l.price) (fun x hx => hM x (List.mem_cons_of_mem _ hx)) (List.pairwise_cons.1 hp).2 (fun x hx e => (List.pairwise_cons.1 hp).1 x.price (List.mem_map_of_mem hx) (by simpa using e)), List.length_cons, Nat.add_comm]
theorem TOk.prices {s : TS} {b : Bk} (h : TOk s b) {q : Int} (hq : q = 1 ∨ q = 2) : pricesF none (sideF b q) = (s.tr q).size := by
  have hsd := h.side hq
  rw [← hsd.abs, abs_sideM, prices_levels _ none (fun l hl => hsd.wf l (sideM_mem.1 hl)) ((sideM_sort hsd.sort hq).imp fun {a b} h e => by rw [e, better_self] at h; cases h) (fun l hl => by simp), sideM_len, tie_size hsd.tie]
def prevF (l : List Rst) (i : Nat) : Option Int := if i = 0 then none else some l[i - 1]!.price
set_option maxHeartbeats 1000000 in
theorem lawPrices {w : World} {v : Value} {l : List Rst} (hl : RSl Rst.enc 7 w [] v l) : Spec Go.Proofs.Try.prog 55 #[v] w [] (fun u _ => u = .int .i64 ((pricesF none l : Nat) : Int)) := by
  have hs := hl.small
  refine Spec.enter (fn := Go.Proofs.Try.f55) (n := 30) [v] Go.Proofs.Try.func55 (by kernel_rfl) rfl Go.Proofs.Try.ntmps55 Go.Proofs.Try.results55 rfl (Own.nil _) ?_
  refine JC.rs ?_
  refine Seq.p rfl Ev.assign ?_
  refine Seq.nil ?_
  refine JC.rs ?_
  refine Seq.p rfl Ev.assign ?_
  refine Seq.nil ?_
  refine JC.seq ?_
  refine JC.rs ?_
  refine Seq.p rfl Ev.assign ?_
  refine Seq.nil ?_
  refine JC.blk ?_
  refine JC.loop (α := Nat × Nat) (I := fun p e1 H1 => Has [3, 4, 5, 6, 7, 8, 9, 10, 11, 12, 13, 14, 15, 16, 17, 18, 19, 20, 21, 22, 23, 24, 25, 26, 27, 28] [(3, .int .i64 (p.2 : Int)), (4, .int .i64 (p.1 : Int))] _ e1 ∧ H1 = [] ∧ p.1 ≤ l.length ∧ p.2 ≤ p.1 ∧ p.2 + pricesF (prevF l p.1) (l.drop p.1) = pricesF none l) (μ := fun p => l.length + 1 - p.1) (0, 0) ⟨Has.mk Off.refl (allLook_cons (by repeat (first | exact Look.here | apply Look.there (hne := rfl) | exact Look.const | apply Look.mix rfl | exact Look.arg0 | apply Look.args | exact Look.func)) (allLook_cons (by repeat (first | exact Look.here | apply Look.there (hne := rfl) | exact Look.const | apply Look.mix rfl | exact Look.arg0 | apply Look.args | exact Look.func)) allLook_nil)), rfl, Nat.zero_le _, Nat.le_refl _, by show 0 + pricesF none (l.drop 0) = _; rw [List.drop_zero, Nat.zero_add]⟩ ?_
  rintro ⟨i, n⟩ _ _ ⟨⟨u, rfl⟩, rfl, hi, hn, hI⟩; dsimp only [setL] at hi hn hI ⊢
  refine JC.seq ?_
  refine JC.rs ?_
  refine Seq.p rfl Ev.move ?_
  refine Seq.p rfl Ev.move ?_
  refine Seq.p rfl (Ev.lenSl sl.sl_api_Resting (hr := hl.r)) ?_
  refine Seq.p rfl Ev.lt ?_
  refine Seq.nil ?_
  first | refine JC.c (ht := fun c8 => ?_) (hf := fun c8 => ?_) | refine JC.cb (ht := fun c8 => ?_) (hf := fun c8 => ?_)
  · -- then_t8
    have hi2 : i < l.length := by omega
    rw [List.drop_eq_getElem_cons hi2] at hI
    have hst : pricesF (prevF l i) (l[i] :: l.drop (i + 1)) = (if prevF l i = some l[i]!.price then 0 else 1) + pricesF (prevF l (i + 1)) (l.drop (i + 1)) := by
      have e : l[i]! = l[i] := getElem!_pos l i hi2
      show (if prevF l i = some l[i].price then 0 else 1) + pricesF (some l[i].price) (l.drop (i + 1)) = _
      rw [show prevF l (i + 1) = some l[i].price by unfold prevF; rw [if_neg (by omega), show i + 1 - 1 = i by omega, e], e]
    rw [hst] at hI
    refine JC.skip ?_
    refine JC.seq ?_
    refine JC.blk ?_
    refine JC.qs mixed (by kernel_rfl) ?_
    refine Qui.p rfl Ev.move ?_
    refine Qui.p rfl Ev.eq ?_
    refine Qui.p rfl Ev.move ?_
    refine Qui.orG (D := [13, 14, 15, 16, 17, 18, 19, 20, 21, 22, 23, 24, 25, 26]) (d := 13) (t := 26) (k := 13) (hn := fun h13 => ?_) (hx := ?_)
    · repeat (first | refine Qui.gn rfl rfl rfl rfl ?_ | refine Qui.gu rfl rfl rfl ?_)
      refine Qui.p rfl Ev.pickT ?_
      exact Qui.nil ⟨(by repeat (first | with_reducible exact Off.refl | refine Off.upd ?_ rfl | exact Off.mix | refine Off.mix2 ?_ rfl)), Look.here⟩
    apply Exists.intro
    refine ⟨fun h13 => ?_, fun u26 => ?_⟩
    · try simp only [decide_eq_true_eq, decide_eq_false_iff_not, Bool.and_eq_true, Bool.or_eq_true, Bool.not_eq_true', Bool.not_eq_false', Bool.or_eq_false_iff, Bool.and_eq_false_imp] at h13
      refine Qui.gy rfl rfl rfl ?_
      refine Qui.p rfl Ev.move ?_
      refine Qui.gy rfl rfl rfl ?_
      refine Qui.p rfl Ev.move ?_
      refine Qui.gy rfl rfl rfl ?_
      refine Qui.p rfl (Ev.iaN sl.sl_api_Resting (hr := hl.r)) ?_
      refine Qui.gy rfl rfl rfl ?_
      refine Qui.p rfl (Ev.fa fd.api_Resting_3) ?_
      refine Qui.gy rfl rfl rfl ?_
      refine Qui.p rfl (Ev.ldE sc.int (hr := hl.r)) ?_
      refine Qui.gy rfl rfl rfl ?_
      refine Qui.p rfl Ev.move ?_
      refine Qui.gy rfl rfl rfl ?_
      refine Qui.p rfl Ev.move ?_
      refine Qui.gy rfl rfl rfl ?_
      refine Qui.p rfl (Ev.subN (a := i) (b := 1)) ?_
      refine Qui.gy rfl rfl rfl ?_
      refine Qui.p rfl (Ev.iaN sl.sl_api_Resting (i := i - 1) (hr := hl.r) (hi := by omega)) ?_
      refine Qui.gy rfl rfl rfl ?_
      refine Qui.p rfl (Ev.fa fd.api_Resting_3) ?_
      refine Qui.gy rfl rfl rfl ?_
      refine Qui.p rfl (Ev.ldE sc.int (hr := hl.r)) ?_
      refine Qui.gy rfl rfl rfl ?_
      refine Qui.p rfl Ev.ne ?_
      refine Qui.p rfl Ev.pickF ?_
      exact Qui.nil ⟨(by repeat (first | with_reducible exact Off.refl | refine Off.upd ?_ rfl | exact Off.mix | refine Off.mix2 ?_ rfl)), Look.here⟩
    refine Qui.nil ?_
    first | refine JC.c (ht := fun c26 => ?_) (hf := fun c26 => ?_) | refine JC.cb (ht := fun c26 => ?_) (hf := fun c26 => ?_)
    · -- then_t26
      have hne : prevF l i ≠ some l[i]!.price := by
        unfold prevF
        by_cases h0 : i = 0
        · rw [if_pos h0]; simp
        · rw [if_neg h0]
          intro e
          simp only [Bool.or_eq_true, decide_eq_true_eq] at c26
          have e2 : l[i - 1]!.price = l[i]!.price := by simpa using e
          omega
      rw [if_neg hne] at hI
      refine JC.reg ?_
      refine Seq.p rfl Ev.move ?_
      refine Seq.p rfl (Ev.addN (m := n) (c := 1)) ?_
      refine Seq.p rfl Ev.assign ?_
      refine Seq.nil ?_
      refine JC.reg ?_
      refine Seq.p rfl Ev.move ?_
      refine Seq.p rfl (by first | exact Ev.inc | exact Ev.add) ?_
      refine Seq.p rfl Ev.assign ?_
      refine Seq.nil ?_
      first
        | (have _ : prevF l i ≠ some l[i]!.price := hne; exact ⟨(i + 1, n + 1), [], Part.refl _, ⟨Has.mk (by repeat (first | refine Off.upd ?_ rfl | exact Off.mix | refine Off.mix2 ?_ rfl | exact Off.refl)) (allLook_cons (by repeat (first | exact Look.here | apply Look.there (hne := rfl) | exact Look.const | apply Look.mix rfl | exact Look.arg0 | apply Look.args | exact Look.func)) (allLook_cons (by repeat (first | exact Look.here | apply Look.there (hne := rfl) | exact Look.const | apply Look.mix rfl | exact Look.arg0 | apply Look.args | exact Look.func)) allLook_nil)), rfl, by show i + 1 ≤ _; omega, by show n + 1 ≤ i + 1; omega, by dsimp only; omega⟩, by show _ - (i + 1) < _ - i; omega⟩)
        | (exact ⟨(i + 1, n), [], Part.refl _, ⟨Has.mk (by repeat (first | refine Off.upd ?_ rfl | exact Off.mix | refine Off.mix2 ?_ rfl | exact Off.refl)) (allLook_cons (by repeat (first | exact Look.here | apply Look.there (hne := rfl) | exact Look.const | apply Look.mix rfl | exact Look.arg0 | apply Look.args | exact Look.func)) (allLook_cons (by repeat (first | exact Look.here | apply Look.there (hne := rfl) | exact Look.const | apply Look.mix rfl | exact Look.arg0 | apply Look.args | exact Look.func)) allLook_nil)), rfl, by show i + 1 ≤ _; omega, by show n ≤ i + 1; omega, by dsimp only; omega⟩, by show _ - (i + 1) < _ - i; omega⟩)
    · -- else_t26
      have hne : prevF l i = some l[i]!.price := by
        simp only [Bool.or_eq_false_iff, decide_eq_false_iff_not] at c26
        unfold prevF
        rw [if_neg (by omega)]
        congr 1
        omega
      rw [if_pos hne] at hI
      refine JC.skip ?_
      refine JC.reg ?_
      refine Seq.p rfl Ev.move ?_
      refine Seq.p rfl (by first | exact Ev.inc | exact Ev.add) ?_
      refine Seq.p rfl Ev.assign ?_
      refine Seq.nil ?_
      first
        | (have _ : prevF l i ≠ some l[i]!.price := hne; exact ⟨(i + 1, n + 1), [], Part.refl _, ⟨Has.mk (by repeat (first | refine Off.upd ?_ rfl | exact Off.mix | refine Off.mix2 ?_ rfl | exact Off.refl)) (allLook_cons (by repeat (first | exact Look.here | apply Look.there (hne := rfl) | exact Look.const | apply Look.mix rfl | exact Look.arg0 | apply Look.args | exact Look.func)) (allLook_cons (by repeat (first | exact Look.here | apply Look.there (hne := rfl) | exact Look.const | apply Look.mix rfl | exact Look.arg0 | apply Look.args | exact Look.func)) allLook_nil)), rfl, by show i + 1 ≤ _; omega, by show n + 1 ≤ i + 1; omega, by dsimp only; omega⟩, by show _ - (i + 1) < _ - i; omega⟩)
        | (exact ⟨(i + 1, n), [], Part.refl _, ⟨Has.mk (by repeat (first | refine Off.upd ?_ rfl | exact Off.mix | refine Off.mix2 ?_ rfl | exact Off.refl)) (allLook_cons (by repeat (first | exact Look.here | apply Look.there (hne := rfl) | exact Look.const | apply Look.mix rfl | exact Look.arg0 | apply Look.args | exact Look.func)) (allLook_cons (by repeat (first | exact Look.here | apply Look.there (hne := rfl) | exact Look.const | apply Look.mix rfl | exact Look.arg0 | apply Look.args | exact Look.func)) allLook_nil)), rfl, by show i + 1 ≤ _; omega, by show n ≤ i + 1; omega, by dsimp only; omega⟩, by show _ - (i + 1) < _ - i; omega⟩)
  · -- else_t8
    have hie : i = l.length := by omega
    have hfin : n = pricesF none l := by rw [hie, List.drop_length] at hI; simpa [pricesF] using hI
    refine JC.exit ?_ -- 0
    refine JC.rs ?_
    refine Seq.p rfl Ev.move ?_
    refine Seq.p rfl Ev.assign ?_
    refine Seq.nil ?_
    refine JC.ret ?_
    show retQ _ _ _ _ _ _ _ _
    refine ret1 (hp := Part.nil _) (hpost := ?_)
    rw [← hfin]
theorem shl_pow : ∀ g : Nat, g ≤ 30 → IntKind.i64.wrap (1 * 2 ^ (Min.min ((g : Int)).toNat IntKind.i64.bits)) = ((2 ^ g : Nat) : Int) := by decide
theorem leastF_succ (n : Nat) : leastF (n + 2) = leastF (n + 1) + leastF n + 1 := rfl
set_option maxHeartbeats 1000000 in
theorem lawFlat {w : World} {t : Tr} (hok : t.ok) (hsz : t.size ≤ 100000) : Spec Go.Proofs.Try.prog 56 #[.int .i64 (t.high : Int), .int .i64 (t.size : Int)] w [] (fun u _ => u = .bool true) := by
  have hg := Tr.high_le hok (by omega)
  obtain ⟨hl1, hl2⟩ := Tr.least hok
  have hsh := shl_pow t.high hg
  obtain ⟨P, hP⟩ : ∃ P, P = 2 ^ t.high := ⟨_, rfl⟩
  rw [← hP] at hl2 hsh
  have hbd : ∀ i, i ≤ 31 → leastF i ≤ 3524577 := fun i hi => by
    have h := least_le hi
    have h5 : leastF 31 = 3524577 := by decide
    omega
  refine Spec.enter (fn := Go.Proofs.Try.f56) (n := 33) [.int .i64 (t.high : Int), .int .i64 (t.size : Int)] Go.Proofs.Try.func56 (by kernel_rfl) rfl Go.Proofs.Try.ntmps56 Go.Proofs.Try.results56 rfl (Own.nil _) ?_
  refine JC.rs ?_
  refine Seq.p rfl Ev.assign ?_
  refine Seq.nil ?_
  refine JC.seq ?_
  refine JC.rs ?_
  refine Seq.p rfl Ev.move ?_
  refine Seq.p rfl Ev.lt ?_
  refine Seq.p rfl Ev.move ?_
  refine Seq.orG (D := [10, 11, 12, 13]) (d := 10) (t := 13) (k := 3) (hn := fun h10 => ?_) (hx := ?_)
  · repeat (first | refine Seq.gn rfl rfl rfl rfl ?_ | refine Seq.gu rfl rfl rfl ?_)
    refine Seq.p rfl Ev.pickT ?_
    exact Seq.nil ⟨rfl, (by repeat (first | with_reducible exact Off.refl | refine Off.upd ?_ rfl | exact Off.mix | refine Off.mix2 ?_ rfl)), Look.here⟩
  apply Exists.intro
  refine ⟨fun h10 => ?_, fun u13 => ?_⟩
  · try simp only [decide_eq_true_eq, decide_eq_false_iff_not, Bool.and_eq_true, Bool.or_eq_true, Bool.not_eq_true', Bool.not_eq_false', Bool.or_eq_false_iff, Bool.and_eq_false_imp] at h10
    refine Seq.gy rfl rfl rfl ?_
    refine Seq.p rfl Ev.move ?_
    refine Seq.gy rfl rfl rfl ?_
    refine Seq.p rfl Ev.gt ?_
    refine Seq.p rfl Ev.pickF ?_
    exact Seq.nil ⟨rfl, (by repeat (first | with_reducible exact Off.refl | refine Off.upd ?_ rfl | exact Off.mix | refine Off.mix2 ?_ rfl)), Look.here⟩
  refine Seq.p rfl Ev.move ?_
  refine Seq.orG (D := [14, 15, 16, 17, 18, 19]) (d := 14) (t := 19) (k := 5) (hn := fun h14 => ?_) (hx := ?_)
  · repeat (first | refine Seq.gn rfl rfl rfl rfl ?_ | refine Seq.gu rfl rfl rfl ?_)
    refine Seq.p rfl Ev.pickT ?_
    exact Seq.nil ⟨rfl, (by repeat (first | with_reducible exact Off.refl | refine Off.upd ?_ rfl | exact Off.mix | refine Off.mix2 ?_ rfl)), Look.here⟩
  apply Exists.intro
  refine ⟨fun h14 => ?_, fun u19 => ?_⟩
  · try simp only [decide_eq_true_eq, decide_eq_false_iff_not, Bool.and_eq_true, Bool.or_eq_true, Bool.not_eq_true', Bool.not_eq_false', Bool.or_eq_false_iff, Bool.and_eq_false_imp] at h14
    refine Seq.gy rfl rfl rfl ?_
    refine Seq.p rfl Ev.move ?_
    refine Seq.gy rfl rfl rfl ?_
    refine Seq.p rfl Ev.move ?_
    refine Seq.gy rfl rfl rfl ?_
    refine Seq.p rfl (Ev.shlB (r := (P : Int)) (hr := hsh)) ?_
    refine Seq.gy rfl rfl rfl ?_
    refine Seq.p rfl Ev.ge ?_
    refine Seq.p rfl Ev.pickF ?_
    exact Seq.nil ⟨rfl, (by repeat (first | with_reducible exact Off.refl | refine Off.upd ?_ rfl | exact Off.mix | refine Off.mix2 ?_ rfl)), Look.here⟩
  refine Seq.nil ?_
  first | refine JC.c (ht := fun c19 => ?_) (hf := fun c19 => ?_) | refine JC.cb (ht := fun c19 => ?_) (hf := fun c19 => ?_)
  · -- then_t19
    exfalso; simp only [Bool.or_eq_true, decide_eq_true_eq] at c19; omega
  · -- else_t19
    refine JC.skip ?_
    refine JC.rs ?_
    refine Seq.p rfl Ev.assign ?_
    refine Seq.p rfl Ev.assign ?_
    refine Seq.nil ?_
    refine JC.seq ?_
    refine JC.rs ?_
    refine Seq.p rfl Ev.assign ?_
    refine Seq.nil ?_
    refine JC.blk ?_
    refine JC.loop (α := Nat) (I := fun i e1 H1 => Has [5, 6, 7, 20, 21, 22, 23, 24, 25, 26, 27, 28, 29] [(5, .int .i64 (leastF i : Int)), (6, .int .i64 (leastF (i + 1) : Int)), (7, .int .i64 (i : Int))] _ e1 ∧ H1 = [] ∧ i ≤ t.high) (μ := fun i => t.high + 1 - i) 0 ⟨Has.mk Off.refl (allLook_cons (by repeat (first | exact Look.here | apply Look.there (hne := rfl) | exact Look.const | apply Look.mix rfl | exact Look.arg0 | apply Look.args | exact Look.func)) (allLook_cons (by repeat (first | exact Look.here | apply Look.there (hne := rfl) | exact Look.const | apply Look.mix rfl | exact Look.arg0 | apply Look.args | exact Look.func)) (allLook_cons (by repeat (first | exact Look.here | apply Look.there (hne := rfl) | exact Look.const | apply Look.mix rfl | exact Look.arg0 | apply Look.args | exact Look.func)) allLook_nil))), rfl, Nat.zero_le _⟩ ?_
    rintro i _ _ ⟨⟨u, rfl⟩, rfl, hi⟩; dsimp only [setL]
    have hb1 := hbd i (by omega)
    refine JC.seq ?_
    refine JC.rs ?_
    refine Seq.p rfl Ev.move ?_
    refine Seq.p rfl Ev.move ?_
    refine Seq.p rfl Ev.lt ?_
    refine Seq.nil ?_
    first | refine JC.c (ht := fun c22 => ?_) (hf := fun c22 => ?_) | refine JC.cb (ht := fun c22 => ?_) (hf := fun c22 => ?_)
    · -- then_t22
      have hi2 : i < t.high := by omega
      have hb2 := hbd (i + 1) (by omega)
      have hst := leastF_succ i
      refine JC.skip ?_
      refine JC.seq ?_
      refine JC.blk ?_
      refine JC.reg ?_
      refine Seq.p rfl Ev.move ?_
      refine Seq.p rfl Ev.move ?_
      refine Seq.p rfl Ev.move ?_
      refine Seq.p rfl (Ev.addN (m := leastF i) (c := leastF (i + 1))) ?_
      refine Seq.p rfl (Ev.as (v' := .int .i64 (leastF (i + 2) : Int)) (by rw [hst]; congr 1; omega) (Ev.addN (m := leastF i + leastF (i + 1)) (c := 1))) ?_
      refine Seq.p rfl Ev.assign ?_
      refine Seq.p rfl Ev.assign ?_
      refine Seq.nil ?_
      refine JC.reg ?_
      refine Seq.p rfl Ev.move ?_
      refine Seq.p rfl (by first | exact Ev.inc | exact Ev.add) ?_
      refine Seq.p rfl Ev.assign ?_
      refine Seq.nil ?_
      exact ⟨i + 1, [], Part.refl _, ⟨Has.mk (by repeat (first | refine Off.upd ?_ rfl | exact Off.mix | refine Off.mix2 ?_ rfl | exact Off.refl)) (allLook_cons (by repeat (first | exact Look.here | apply Look.there (hne := rfl) | exact Look.const | apply Look.mix rfl | exact Look.arg0 | apply Look.args | exact Look.func)) (allLook_cons (by repeat (first | exact Look.here | apply Look.there (hne := rfl) | exact Look.const | apply Look.mix rfl | exact Look.arg0 | apply Look.args | exact Look.func)) (allLook_cons (by repeat (first | exact Look.here | apply Look.there (hne := rfl) | exact Look.const | apply Look.mix rfl | exact Look.arg0 | apply Look.args | exact Look.func)) allLook_nil))), rfl, by omega⟩, by omega⟩
    · -- else_t22
      have hie : i = t.high := by omega
      refine JC.exit ?_ -- 0
      refine JC.rs ?_
      refine Seq.p rfl Ev.move ?_
      refine Seq.p rfl Ev.move ?_
      refine Seq.p rfl Ev.le ?_
      refine Seq.p rfl Ev.assign ?_
      refine Seq.nil ?_
      refine JC.ret ?_
      show retQ _ _ _ _ _ _ _ _
      refine ret1 (hp := Part.nil _) (hpost := ?_)
      rw [hie]; simp; exact hl1
end Go.Rx
/- The law's pair of books: what is told; what a command does. (printed by gen_oz5.py) -/
namespace Go.Rx
open Go Go.RowKit
set_option linter.unusedVariables false
set_option linter.unusedSimpArgs false
abbrev pairT : TypeId := 54
abbrev pairC (px bk : Nat) (b : Bk) (vb vs : Value) : Chunk := .box px pairT [.pointer (some ⟨bk, 0, none⟩), .int .i64 b.cap, .int .i64 b.meet, vb, vs, .int .u64 (b.high : Int), .int .u64 (b.seq : Int)]
abbrev pairL (px : Nat) (s : TS) (bk mb : Nat) (b : Bk) (A1 : Option Addr) (c1 : Nat) (A2 : Option Addr) (c2 : Nat) : List Chunk := [pairC px bk b (.slice A1 b.buys.length c1) (.slice A2 b.sells.length c2), bookC bk b.cap b.meet s.t1.adr s.t2.adr mb b.high b.seq, treeC nodeT s.t1, treeC nodeT s.t2, .mq mb (Value.int .u64) s.ids, levsC 1 s.B, levsC 2 s.S, rstL (.slice A1 b.buys.length c1) b.buys, rstL (.slice A2 b.sells.length c2) b.sells]
set_option maxHeartbeats 8000000 in
set_option maxRecDepth 100000 in
theorem lawTold {w : World} {px bk mb c1 c2 : Nat} {s : TS} {b : Bk} {A1 A2 : Option Addr} (hT : TOk s b) (hb : BOk b) (hO : Own w (pairL px s bk mb b A1 c1 A2 c2)) :
    Spec Go.Proofs.Try.prog 17 #[.pointer (some ⟨px, 0, none⟩)] w (pairL px s bk mb b A1 c1 A2 c2) (fun u H' => u = .bool true ∧ H' = pairL px s bk mb b A1 c1 A2 c2) := by
  have hl := hb.live
  have hl1 := hl.2.1.1
  have hl2 := hl.2.1.2
  refine Spec.enter (fn := Go.Proofs.Try.f17) (n := 53) [.pointer (some ⟨px, 0, none⟩)] Go.Proofs.Try.func17 (by kernel_rfl) rfl Go.Proofs.Try.ntmps17 Go.Proofs.Try.results17 rfl hO ?_
  refine JC.rs ?_
  refine Seq.p rfl Ev.assign ?_
  refine Seq.nil ?_
  refine JC.rs ?_
  refine Seq.p rfl Ev.move ?_
  refine Seq.p rfl Ev.nilP ?_
  refine Seq.p rfl (Ev.faB fd.bourselaw10_pair_0) ?_
  refine Seq.p rfl (Ev.ldB sc.p_treebook_Book) ?_
  refine Seq.call rfl (fun w' hw => tbBook hT hl (Part.own (by repeat (first | exact Part.nil _ | refine Part.at (by repeat (first | exact At.z | apply At.s)) ?_)) hw.own)) (Gs := s.all bk mb b) (F := _) (Perm.at (by repeat (first | exact At.z | apply At.s)) (Perm.at (by repeat (first | exact At.z | apply At.s)) (Perm.at (by repeat (first | exact At.z | apply At.s)) (Perm.at (by repeat (first | exact At.z | apply At.s)) (Perm.at (by repeat (first | exact At.z | apply At.s)) (Perm.at (by repeat (first | exact At.z | apply At.s)) (Perm.none _))))))) ?_
  rintro _ _ ⟨A3, c3, A4, c4, rfl, rfl⟩
  try simp only [List.cons_append, List.nil_append, List.eraseIdx_cons_zero, List.eraseIdx_cons_succ, List.set_cons_zero, List.set_cons_succ]
  refine Seq.alloc (cs := [_, _, _, _, _, _]) (hz := z.api_Book) (k := ?_); intro b3
  refine Seq.storeN [_, _, _, _, _, _] sz.api_Book (k := ?_)
  refine Seq.nil ?_
  refine JC.qs mixed (by kernel_rfl) ?_
  refine Qui.p rfl (Ev.asR (v' := .agg (b.cells (.slice A3 b.buys.length c3) (.slice A4 b.sells.length c4)).toArray) (Ev.ldBA ag.api_Book) rfl) ?_
  refine Qui.p rfl Ev.move ?_
  refine Qui.p rfl Ev.nilP ?_
  refine Qui.p rfl (Ev.faB fd.bourselaw10_pair_1) ?_
  refine Qui.p rfl (Ev.asR (v' := .agg (b.cells (.slice A1 b.buys.length c1) (.slice A2 b.sells.length c2)).toArray) (Ev.ldBPN (b.cells (.slice A1 b.buys.length c1) (.slice A2 b.sells.length c2)) ag.api_Book) rfl) ?_
  refine Qui.call rfl (fun w hw => sameBookT (RAt.up (RAt.own (enc := Rst.enc) (v := (.slice A3 b.buys.length c3)) (xs := b.buys) (hs := by omega)) hw) (RAt.up (RAt.own (enc := Rst.enc) (v := (.slice A4 b.sells.length c4)) (xs := b.sells) (hs := by omega)) hw) (RAt.up (RAt.own (enc := Rst.enc) (v := .slice A1 b.buys.length c1) (xs := b.buys) (hs := by omega)) hw) (RAt.up (RAt.own (enc := Rst.enc) (v := .slice A2 b.sells.length c2) (xs := b.sells) (hs := by omega)) hw)) ?_
  refine Qui.p rfl Ev.assign ?_
  refine Qui.nil ?_
  refine JC.seq ?_
  refine JC.rs ?_
  refine Seq.p rfl Ev.assign ?_
  refine Seq.nil ?_
  refine JC.blk ?_
  refine JC.re (H' := [pairC px bk b (.slice A1 b.buys.length c1) (.slice A2 b.sells.length c2), bookC bk b.cap b.meet s.t1.adr s.t2.adr mb b.high b.seq, treeC nodeT s.t1, treeC nodeT s.t2, .mq mb (Value.int .u64) s.ids, levsC 1 s.B, levsC 2 s.S, rstL (.slice A1 b.buys.length c1) b.buys, rstL (.slice A2 b.sells.length c2) b.sells, .box b3 49 (b.cells (.slice A3 b.buys.length c3) (.slice A4 b.sells.length c4)), rstL (.slice A4 b.sells.length c4) b.sells, .own 42 7 (.slice A3 b.buys.length c3) (b.buys.length) (b.buys.flatMap Rst.enc)]) (fun w hu => hu.part (by repeat (first | exact Part.nil _ | refine Part.at (by repeat (first | exact At.z | apply At.s)) ?_))) ?_
  refine JC.loop (α := Nat) (I := fun i e1 H1 => ∃ xs, xs.length = b.buys.length ∧ i ≤ b.buys.length ∧ Has [5, 18, 19, 20, 21, 22, 23, 24, 25, 26, 27, 28, 29] [(5, .int .i64 (i : Int))] _ e1 ∧ H1 = [pairC px bk b (.slice A1 b.buys.length c1) (.slice A2 b.sells.length c2), bookC bk b.cap b.meet s.t1.adr s.t2.adr mb b.high b.seq, treeC nodeT s.t1, treeC nodeT s.t2, .mq mb (Value.int .u64) s.ids, levsC 1 s.B, levsC 2 s.S, rstL (.slice A1 b.buys.length c1) b.buys, rstL (.slice A2 b.sells.length c2) b.sells, .box b3 49 (b.cells (.slice A3 b.buys.length c3) (.slice A4 b.sells.length c4)), rstL (.slice A4 b.sells.length c4) b.sells, .own 42 7 (.slice A3 b.buys.length c3) xs.length (xs.flatMap Rst.enc)]) (μ := fun i => b.buys.length + 1 - i) 0 ⟨b.buys, rfl, Nat.zero_le _, Has.mk Off.refl (allLook_cons (by repeat (first | exact Look.here | apply Look.there (hne := rfl) | exact Look.const | apply Look.mix rfl | exact Look.arg0 | apply Look.args | exact Look.func)) allLook_nil), rfl⟩ ?_
  rintro i _ _ ⟨xs, hxs, hi, ⟨u, rfl⟩, rfl⟩; dsimp only [setL]
  refine JC.seq ?_
  refine JC.rs ?_
  refine Seq.p rfl Ev.move ?_
  refine Seq.p rfl (Ev.faB fd.api_Book_1) ?_
  refine Seq.p rfl (Ev.ldB sc.sl_api_Resting) ?_
  refine Seq.p rfl (Ev.lenH sl.sl_api_Resting) ?_
  refine Seq.p rfl Ev.lt ?_
  refine Seq.nil ?_
  first | refine JC.c (ht := fun c22 => ?_) (hf := fun c22 => ?_) | refine JC.cb (ht := fun c22 => ?_) (hf := fun c22 => ?_)
  · -- then_t22
    have hi2 : i < b.buys.length := by omega
    refine JC.skip ?_
    refine JC.seq ?_
    refine JC.blk ?_
    refine JC.reg ?_
    refine Seq.p rfl (Ev.faB fd.api_Book_1) ?_
    refine Seq.p rfl (Ev.ldB sc.sl_api_Resting) ?_
    refine Seq.p rfl Ev.move ?_
    refine Seq.p rfl (Ev.buildN [_, _, _, _, _, _, _] pl.api_Resting z.api_Resting) ?_
    refine Seq.p rfl (Ev.iaN sl.sl_api_Resting (i := i) (hr := RAt.own (enc := Rst.enc) (v := (.slice A3 b.buys.length c3)) (xs := xs) (hs := by omega)) (hi := by omega)) ?_
    refine Seq.stOwn (enc := Rst.enc) (v := (.slice A3 b.buys.length c3)) (xs := xs) (q := i) (⟨4715, 0, 0, 0, 9, 0, 0⟩ : Rst) sz.api_Resting (by decide) (h1 := rstOne) (hq := by omega) (k := ?_)
    refine Seq.nil ?_
    refine JC.reg ?_
    refine Seq.p rfl Ev.move ?_
    refine Seq.p rfl (by first | exact Ev.inc | exact Ev.add) ?_
    refine Seq.p rfl Ev.assign ?_
    refine Seq.nil ?_
    exact ⟨i + 1, _, Part.refl _, ⟨xs.set i (⟨4715, 0, 0, 0, 9, 0, 0⟩ : Rst), by rw [List.length_set]; exact hxs, by omega, Has.mk (by repeat (first | refine Off.upd ?_ rfl | exact Off.mix | refine Off.mix2 ?_ rfl | exact Off.refl)) (allLook_cons (by repeat (first | exact Look.here | apply Look.there (hne := rfl) | exact Look.const | apply Look.mix rfl | exact Look.arg0 | apply Look.args | exact Look.func)) allLook_nil), rfl⟩, by omega⟩
  · -- else_t22
    skip
    refine JC.exit ?_ -- 0
    refine JC.seq ?_
    refine JC.rs ?_
    refine Seq.p rfl Ev.assign ?_
    refine Seq.nil ?_
    refine JC.blk ?_
    refine JC.re (H' := [pairC px bk b (.slice A1 b.buys.length c1) (.slice A2 b.sells.length c2), bookC bk b.cap b.meet s.t1.adr s.t2.adr mb b.high b.seq, treeC nodeT s.t1, treeC nodeT s.t2, .mq mb (Value.int .u64) s.ids, levsC 1 s.B, levsC 2 s.S, rstL (.slice A1 b.buys.length c1) b.buys, rstL (.slice A2 b.sells.length c2) b.sells, .box b3 49 (b.cells (.slice A3 b.buys.length c3) (.slice A4 b.sells.length c4)), .own 42 7 (.slice A3 b.buys.length c3) xs.length (xs.flatMap Rst.enc), .own 42 7 (.slice A4 b.sells.length c4) (b.sells.length) (b.sells.flatMap Rst.enc)]) (fun w hu => hu.part (by repeat (first | exact Part.nil _ | refine Part.at (by repeat (first | exact At.z | apply At.s)) ?_))) ?_
    refine JC.loop (α := Nat) (I := fun i e1 H1 => ∃ ys, ys.length = b.sells.length ∧ i ≤ b.sells.length ∧ Has [6, 30, 31, 32, 33, 34, 35, 36, 37, 38, 39, 40, 41] [(6, .int .i64 (i : Int))] _ e1 ∧ H1 = [pairC px bk b (.slice A1 b.buys.length c1) (.slice A2 b.sells.length c2), bookC bk b.cap b.meet s.t1.adr s.t2.adr mb b.high b.seq, treeC nodeT s.t1, treeC nodeT s.t2, .mq mb (Value.int .u64) s.ids, levsC 1 s.B, levsC 2 s.S, rstL (.slice A1 b.buys.length c1) b.buys, rstL (.slice A2 b.sells.length c2) b.sells, .box b3 49 (b.cells (.slice A3 b.buys.length c3) (.slice A4 b.sells.length c4)), .own 42 7 (.slice A3 b.buys.length c3) xs.length (xs.flatMap Rst.enc), .own 42 7 (.slice A4 b.sells.length c4) ys.length (ys.flatMap Rst.enc)]) (μ := fun i => b.sells.length + 1 - i) 0 ⟨b.sells, rfl, Nat.zero_le _, Has.mk Off.refl (allLook_cons (by repeat (first | exact Look.here | apply Look.there (hne := rfl) | exact Look.const | apply Look.mix rfl | exact Look.arg0 | apply Look.args | exact Look.func)) allLook_nil), rfl⟩ ?_
    rintro i _ _ ⟨ys, hys, hi, ⟨u, rfl⟩, rfl⟩; dsimp only [setL]
    refine JC.seq ?_
    refine JC.rs ?_
    refine Seq.p rfl Ev.move ?_
    refine Seq.p rfl (Ev.faB fd.api_Book_2) ?_
    refine Seq.p rfl (Ev.ldB sc.sl_api_Resting) ?_
    refine Seq.p rfl (Ev.lenH sl.sl_api_Resting) ?_
    refine Seq.p rfl Ev.lt ?_
    refine Seq.nil ?_
    first | refine JC.c (ht := fun c34 => ?_) (hf := fun c34 => ?_) | refine JC.cb (ht := fun c34 => ?_) (hf := fun c34 => ?_)
    · -- then_t34
      have hi2 : i < b.sells.length := by omega
      refine JC.skip ?_
      refine JC.seq ?_
      refine JC.blk ?_
      refine JC.reg ?_
      refine Seq.p rfl (Ev.faB fd.api_Book_2) ?_
      refine Seq.p rfl (Ev.ldB sc.sl_api_Resting) ?_
      refine Seq.p rfl Ev.move ?_
      refine Seq.p rfl (Ev.buildN [_, _, _, _, _, _, _] pl.api_Resting z.api_Resting) ?_
      refine Seq.p rfl (Ev.iaN sl.sl_api_Resting (i := i) (hr := RAt.own (enc := Rst.enc) (v := (.slice A4 b.sells.length c4)) (xs := ys) (hs := by omega)) (hi := by omega)) ?_
      refine Seq.stOwn (enc := Rst.enc) (v := (.slice A4 b.sells.length c4)) (xs := ys) (q := i) (⟨4716, 0, 0, 0, 9, 0, 0⟩ : Rst) sz.api_Resting (by decide) (h1 := rstOne) (hq := by omega) (k := ?_)
      refine Seq.nil ?_
      refine JC.reg ?_
      refine Seq.p rfl Ev.move ?_
      refine Seq.p rfl (by first | exact Ev.inc | exact Ev.add) ?_
      refine Seq.p rfl Ev.assign ?_
      refine Seq.nil ?_
      exact ⟨i + 1, _, Part.refl _, ⟨ys.set i (⟨4716, 0, 0, 0, 9, 0, 0⟩ : Rst), by rw [List.length_set]; exact hys, by omega, Has.mk (by repeat (first | refine Off.upd ?_ rfl | exact Off.mix | refine Off.mix2 ?_ rfl | exact Off.refl)) (allLook_cons (by repeat (first | exact Look.here | apply Look.there (hne := rfl) | exact Look.const | apply Look.mix rfl | exact Look.arg0 | apply Look.args | exact Look.func)) allLook_nil), rfl⟩, by omega⟩
    · -- else_t34
      refine JC.exit ?_ -- 2
      refine JC.rs ?_
      refine Seq.p rfl (Ev.faB fd.api_Book_1) ?_
      refine Seq.p rfl (Ev.ldB sc.sl_api_Resting) ?_
      refine Seq.p rfl (Ev.buildN [_, _, _, _, _, _, _] pl.api_Resting z.api_Resting) ?_
      refine Seq.buildSlN [_, _, _, _, _, _, _] (hsl := sl.sl_api_Resting) (hz := z.api_Resting) (k := ?_); intro b45
      refine Seq.append (j := 1) (v := (.slice A3 b.buys.length c3)) (xs := xs.flatMap Rst.enc) (hsl := sl.sl_api_Resting) (he := el.api_Resting) (hsrc := fun w' hw => Src.box (news := [_, _, _, _, _, _, _]) sl.sl_api_Resting (by repeat (first | exact At.z | apply At.s)) hw rfl (fun q u hu => hu)) (k := ?_); intro A46 c46
      refine Seq.nil ?_
      refine JC.rs ?_
      refine Seq.p rfl (Ev.faB fd.api_Book_2) ?_
      refine Seq.p rfl (Ev.ldB sc.sl_api_Resting) ?_
      refine Seq.p rfl (Ev.buildN [_, _, _, _, _, _, _] pl.api_Resting z.api_Resting) ?_
      refine Seq.buildSlN [_, _, _, _, _, _, _] (hsl := sl.sl_api_Resting) (hz := z.api_Resting) (k := ?_); intro b50
      refine Seq.append (j := 1) (v := (.slice A4 b.sells.length c4)) (xs := ys.flatMap Rst.enc) (hsl := sl.sl_api_Resting) (he := el.api_Resting) (hsrc := fun w' hw => Src.box (news := [_, _, _, _, _, _, _]) sl.sl_api_Resting (by repeat (first | exact At.z | apply At.s)) hw rfl (fun q u hu => hu)) (k := ?_); intro A51 c51
      refine Seq.nil ?_
      refine JC.rs ?_
      refine Seq.p rfl Ev.move ?_
      refine Seq.p rfl Ev.assign ?_
      refine Seq.nil ?_
      refine JC.ret ?_
      show retQ _ _ _ _ _ _ _ _
      refine ret1 (hp := (show Part (pairL px s bk mb b A1 c1 A2 c2) _ from (by repeat (first | exact Part.nil _ | refine Part.at (by repeat (first | exact At.z | apply At.s)) ?_)))) (hpost := ?_)
      exact ⟨rfl, rfl⟩
end Go.Rx
/- The law's pair of books: what a command does. (printed by gen_oz6.py) -/
namespace Go.Rx
open Go Go.RowKit
set_option linter.unusedVariables false
set_option linter.unusedSimpArgs false
end Go.Rx
/- The law's pair of books: a new one. -/
namespace Go.Rx
open Go Go.RowKit
set_option linter.unusedVariables false
set_option linter.unusedSimpArgs false
def PairIs (px bk : Nat) (H : List Chunk) : Prop := ∃ (s : TS) (b : Bk) (mb : Nat) (A1 A2 : Option Addr) (c1 c2 : Nat), TOk s b ∧ BOk b ∧ H = pairL px s bk mb b A1 c1 A2 c2
theorem BOk.empty {cap meet : Int} (hc : configF cap meet = true) : BOk (Bk.empty cap meet) := by
  have h := valid_empty cap meet
  rw [if_pos hc] at h
  refine ⟨?_, (by intro r hr; cases hr), (by show 0 < _; decide), (by show 0 < _; decide)⟩
  by_cases hv : validP (Bk.empty cap meet)
  · exact hv
  · unfold validF at h; rw [if_neg hv] at h; simp at h
set_option maxHeartbeats 2000000 in
set_option maxRecDepth 100000 in
theorem lawMadeA {w : World} {cap meet : Int} (hc : configF cap meet = true) :
    Spec Go.Proofs.Try.prog 15 #[.agg #[.int .i64 cap, .int .i64 meet]] w [] (fun u H' => ∃ px bk, u = .tuple #[.pointer (some ⟨px, 0, none⟩), .bool true] ∧ PairIs px bk H') := by
  refine Spec.enter (fn := Go.Proofs.Try.f15) (n := 32) [.agg #[.int .i64 cap, .int .i64 meet]] Go.Proofs.Try.func15 (by kernel_rfl) rfl Go.Proofs.Try.ntmps15 Go.Proofs.Try.results15 rfl (Own.nil _) ?_
  refine JC.rs ?_
  refine Seq.box (cs := [_, _]) (k := ?_); intro b1
  refine Seq.p rfl Ev.assign ?_
  refine Seq.p rfl Ev.assign ?_
  refine Seq.nil ?_
  refine JC.rs ?_
  refine Seq.p rfl (Ev.asR (v' := .agg #[.int .i64 cap, .int .i64 meet]) (Ev.ldBA ag.api_Config) rfl) ?_
  refine Seq.call rfl (fun w' hw => tbNew (cap := cap) (meet := meet)) (Gs := []) (F := _) (by exact List.Perm.refl _) ?_
  rintro _ _ hN
  unfold TbNew at hN; rw [if_pos hc] at hN; obtain ⟨bk, mb, rfl, rfl⟩ := hN
  try simp only [List.cons_append, List.nil_append]
  refine Seq.p rfl Ev.move ?_
  refine Seq.p rfl Ev.extract ?_
  refine Seq.p rfl Ev.extract ?_
  refine Seq.p rfl Ev.assign ?_
  refine Seq.p rfl Ev.assign ?_
  refine Seq.nil ?_
  refine JC.rs ?_
  refine Seq.p rfl (Ev.asR (v' := .agg #[.int .i64 cap, .int .i64 meet]) (Ev.ldBA ag.api_Config) rfl) ?_
  refine Seq.callP rfl (fun w' hw => by have h := ref9New (w := w') (cap := cap) (meet := meet); rw [show newF cap meet = (Bk.empty cap meet, 0) from if_pos hc] at h; exact h) ?_
  refine Seq.p rfl Ev.move ?_
  refine Seq.p rfl Ev.extract ?_
  refine Seq.p rfl Ev.extract ?_
  refine Seq.alloc (cs := [_, _, _, _, _, _]) (hz := z.api_Book) (k := ?_); intro b6
  refine Seq.storeN [_, _, _, _, _, _] sz.api_Book (k := ?_)
  refine Seq.p rfl Ev.assign ?_
  refine Seq.nil ?_
  refine JC.rs ?_
  refine Seq.re (fun w h => Upd.nilOwn h 42 7) ?_
  refine Seq.re (fun w h => Upd.nilOwn h 42 7) ?_
  refine Seq.p rfl Ev.move ?_
  refine Seq.p rfl (Ev.asR (v' := .agg ((Bk.empty cap meet).cells (.slice none 0 0) (.slice none 0 0)).toArray) (Ev.ldBA ag.api_Book) rfl) ?_
  refine Seq.p rfl (Ev.buildN [_, _, _, _, _, _, _] pl.bourselaw10_pair z.bourselaw10_pair) ?_
  refine Seq.box (cs := [_, _, _, _, _, _, _]) (k := ?_); intro b21
  refine Seq.p rfl Ev.move ?_
  refine Seq.p rfl Ev.move ?_
  refine Seq.p rfl Ev.eq ?_
  refine Seq.p rfl Ev.move ?_
  refine Seq.andG (D := [25, 26, 27, 28, 29, 30, 31]) (d := 25) (t := 31) (k := 6) (hn := fun h25 => ?_) (hx := ?_)
  · repeat (first | refine Seq.gn rfl rfl rfl rfl ?_ | refine Seq.gu rfl rfl rfl ?_)
    refine Seq.p rfl Ev.pickF ?_
    exact Seq.nil ⟨rfl, (by repeat (first | with_reducible exact Off.refl | refine Off.upd ?_ rfl | exact Off.mix | refine Off.mix2 ?_ rfl)), Look.here⟩
  apply Exists.intro
  refine ⟨fun h25 => ?_, fun u31 => ?_⟩
  · try simp only [decide_eq_true_eq, decide_eq_false_iff_not, Bool.and_eq_true, Bool.or_eq_true, Bool.not_eq_true', Bool.not_eq_false', Bool.or_eq_false_iff, Bool.and_eq_false_imp] at h25
    refine Seq.gy rfl rfl rfl ?_
    refine Seq.p rfl Ev.move ?_
    refine Seq.gy rfl rfl rfl ?_
    refine Seq.p rfl (Ev.eqNilP und.p_treebook_Book) ?_
    refine Seq.gy rfl rfl rfl ?_
    refine Seq.p rfl Ev.move ?_
    refine Seq.gy rfl rfl rfl ?_
    refine Seq.p rfl Ev.ne ?_
    refine Seq.gy rfl rfl rfl ?_
    refine Seq.p rfl (Ev.eqB bl.bool) ?_
    refine Seq.p rfl Ev.pickT ?_
    exact Seq.nil ⟨rfl, (by repeat (first | with_reducible exact Off.refl | refine Off.upd ?_ rfl | exact Off.mix | refine Off.mix2 ?_ rfl)), Look.here⟩
  refine Seq.p rfl Ev.assign ?_
  refine Seq.p rfl Ev.assign ?_
  refine Seq.nil ?_
  refine JC.ret ?_
  show retQ _ _ _ _ _ _ _ _
  refine ret2 (hp := (show Part (pairL b21 TS.empty bk mb (Bk.empty cap meet) none 0 none 0) _ from (by repeat (first | exact Part.nil _ | refine Part.at (by repeat (first | exact At.z | apply At.s)) ?_)))) (hpost := ?_)
  exact ⟨b21, bk, by simp [*], TS.empty, Bk.empty cap meet, mb, none, none, 0, 0, TOk.empty _ _, BOk.empty hc, rfl⟩
set_option maxHeartbeats 2000000 in
set_option maxRecDepth 100000 in
theorem lawMadeB {w : World} {cap meet : Int} (hc : ¬ configF cap meet = true) :
    Spec Go.Proofs.Try.prog 15 #[.agg #[.int .i64 cap, .int .i64 meet]] w [] (fun u H' => ∃ px, u = .tuple #[.pointer (some ⟨px, 0, none⟩), .bool true] ∧ H' = [.box px pairT [.pointer none, .int .i64 0, .int .i64 0, .slice none 0 0, .slice none 0 0, .int .u64 0, .int .u64 0]]) := by
  refine Spec.enter (fn := Go.Proofs.Try.f15) (n := 32) [.agg #[.int .i64 cap, .int .i64 meet]] Go.Proofs.Try.func15 (by kernel_rfl) rfl Go.Proofs.Try.ntmps15 Go.Proofs.Try.results15 rfl (Own.nil _) ?_
  refine JC.rs ?_
  refine Seq.box (cs := [_, _]) (k := ?_); intro b1
  refine Seq.p rfl Ev.assign ?_
  refine Seq.p rfl Ev.assign ?_
  refine Seq.nil ?_
  refine JC.rs ?_
  refine Seq.p rfl (Ev.asR (v' := .agg #[.int .i64 cap, .int .i64 meet]) (Ev.ldBA ag.api_Config) rfl) ?_
  refine Seq.call rfl (fun w' hw => tbNew (cap := cap) (meet := meet)) (Gs := []) (F := _) (by exact List.Perm.refl _) ?_
  rintro _ _ hN
  unfold TbNew at hN; rw [if_neg hc] at hN; obtain ⟨rfl, rfl⟩ := hN
  try simp only [List.cons_append, List.nil_append]
  refine Seq.p rfl Ev.move ?_
  refine Seq.p rfl Ev.extract ?_
  refine Seq.p rfl Ev.extract ?_
  refine Seq.p rfl Ev.assign ?_
  refine Seq.p rfl Ev.assign ?_
  refine Seq.nil ?_
  refine JC.rs ?_
  refine Seq.p rfl (Ev.asR (v' := .agg #[.int .i64 cap, .int .i64 meet]) (Ev.ldBA ag.api_Config) rfl) ?_
  refine Seq.callP rfl (fun w' hw => by have h := ref9New (w := w') (cap := cap) (meet := meet); rw [show newF cap meet = (Bk.empty 0 0, 1) from if_neg hc] at h; exact h) ?_
  refine Seq.p rfl Ev.move ?_
  refine Seq.p rfl Ev.extract ?_
  refine Seq.p rfl Ev.extract ?_
  refine Seq.alloc (cs := [_, _, _, _, _, _]) (hz := z.api_Book) (k := ?_); intro b6
  refine Seq.storeN [_, _, _, _, _, _] sz.api_Book (k := ?_)
  refine Seq.p rfl Ev.assign ?_
  refine Seq.nil ?_
  refine JC.rs ?_
  refine Seq.p rfl Ev.move ?_
  refine Seq.p rfl (Ev.asR (v' := .agg ((Bk.empty 0 0).cells (.slice none 0 0) (.slice none 0 0)).toArray) (Ev.ldBA ag.api_Book) rfl) ?_
  refine Seq.p rfl (Ev.buildN [_, _, _, _, _, _, _] pl.bourselaw10_pair z.bourselaw10_pair) ?_
  refine Seq.box (cs := [_, _, _, _, _, _, _]) (k := ?_); intro b21
  refine Seq.p rfl Ev.move ?_
  refine Seq.p rfl Ev.move ?_
  refine Seq.p rfl Ev.eq ?_
  refine Seq.p rfl Ev.move ?_
  refine Seq.andG (D := [25, 26, 27, 28, 29, 30, 31]) (d := 25) (t := 31) (k := 6) (hn := fun h25 => ?_) (hx := ?_)
  · repeat (first | refine Seq.gn rfl rfl rfl rfl ?_ | refine Seq.gu rfl rfl rfl ?_)
    refine Seq.p rfl Ev.pickF ?_
    exact Seq.nil ⟨rfl, (by repeat (first | with_reducible exact Off.refl | refine Off.upd ?_ rfl | exact Off.mix | refine Off.mix2 ?_ rfl)), Look.here⟩
  apply Exists.intro
  refine ⟨fun h25 => ?_, fun u31 => ?_⟩
  · try simp only [decide_eq_true_eq, decide_eq_false_iff_not, Bool.and_eq_true, Bool.or_eq_true, Bool.not_eq_true', Bool.not_eq_false', Bool.or_eq_false_iff, Bool.and_eq_false_imp] at h25
    refine Seq.gy rfl rfl rfl ?_
    refine Seq.p rfl Ev.move ?_
    refine Seq.gy rfl rfl rfl ?_
    refine Seq.p rfl (Ev.eqNilP und.p_treebook_Book) ?_
    refine Seq.gy rfl rfl rfl ?_
    refine Seq.p rfl Ev.move ?_
    refine Seq.gy rfl rfl rfl ?_
    refine Seq.p rfl Ev.ne ?_
    refine Seq.gy rfl rfl rfl ?_
    refine Seq.p rfl (Ev.eqB bl.bool) ?_
    refine Seq.p rfl Ev.pickT ?_
    exact Seq.nil ⟨rfl, (by repeat (first | with_reducible exact Off.refl | refine Off.upd ?_ rfl | exact Off.mix | refine Off.mix2 ?_ rfl)), Look.here⟩
  refine Seq.p rfl Ev.assign ?_
  refine Seq.p rfl Ev.assign ?_
  refine Seq.nil ?_
  refine JC.ret ?_
  show retQ _ _ _ _ _ _ _ _
  refine ret2 (hp := (show Part [.box b21 pairT [.pointer none, .int .i64 0, .int .i64 0, .slice none 0 0, .slice none 0 0, .int .u64 0, .int .u64 0]] _ from (by repeat (first | exact Part.nil _ | refine Part.at (by repeat (first | exact At.z | apply At.s)) ?_)))) (hpost := ?_)
  exact ⟨b21, by simp [*], rfl⟩
end Go.Rx
