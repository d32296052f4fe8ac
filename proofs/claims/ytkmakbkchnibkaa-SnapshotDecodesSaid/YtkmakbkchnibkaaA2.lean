/- A part of the proof: the text A2. -/
import Derived.Test.YtkmakbkchnibkaaA1
namespace Go.Rx
open Go Go.RowKit
set_option linter.unusedVariables false
/-- How much of the orders xs is shown at a price. -/
def shown (xs : List Resting) (p : Int) : Int := xs.foldl (fun s o => if o.price = p then (s + o.visible) % 18446744073709551616 else s) 0
def aheadIn (xs : List Resting) (id : Int) : Option Int := (xs.findIdx? fun o => decide (o.id = id)).map fun i => shown (xs.take i) xs[i]!.price
def aheadOf (b : Book) (id : Int) : Option Int := match aheadIn b.buys id with | some s => some s | none => aheadIn b.sells id
def aheadV : Option Int → Value | some s => .tuple #[.int .u64 s, .bool true] | none => .tuple #[.int .u64 0, .bool false]
theorem shown_snoc (xs : List Resting) (p : Int) (i : Nat) (h : i < xs.length) : shown (xs.take (i + 1)) p = if xs[i]!.price = p then (shown (xs.take i) p + xs[i]!.visible) % 18446744073709551616 else shown (xs.take i) p := by
  have : xs.take (i + 1) = xs.take i ++ [xs[i]!] := by
    rw [List.take_succ_eq_append_getElem h, getElem!_pos xs i h]
  rw [this]
  unfold shown
  rw [List.foldl_append]
  rfl
def bookV (b : Book) (vb vs : Value) : List Value := [.int .i64 b.cap, .int .i64 b.meet, vb, vs, .int .u64 b.high, .int .u64 b.seq]
set_option maxHeartbeats 2000000 in
set_option maxRecDepth 100000 in
theorem snapAhead {w : World} {b : Book} {vb vs : Value} {id : Int} (hb : RSl Resting.enc 7 w [] vb b.buys) (hs : RSl Resting.enc 7 w [] vs b.sells) :
    Spec Go.Proofs.Try.prog 6 #[.agg (bookV b vb vs).toArray, .int .u64 id] w [] (fun u _ => u = aheadV (aheadOf b id)) := by
  have hb1 := hb.small
  have hs1 := hs.small
  obtain ⟨Ab, cb, rfl, _, _⟩ := hb.shape
  obtain ⟨As, cs, rfl, _, _⟩ := hs.shape
  generalize hvb : Value.slice Ab b.buys.length cb = vb at hb
  generalize hvs : Value.slice As b.sells.length cs = vs at hs
  subst hvb hvs
  refine Spec.enter (fn := Go.Proofs.Try.f6) (n := 50) [.agg (bookV b (.slice Ab b.buys.length cb) (.slice As b.sells.length cs)).toArray, .int .u64 id] Go.Proofs.Try.func6 (by kernel_rfl) rfl Go.Proofs.Try.ntmps6 Go.Proofs.Try.results6 rfl (Own.nil _) ?_
  refine JC.rs ?_
  refine Seq.box (k := ?_); intro b2
  refine Seq.box (k := ?_); intro b3
  refine Seq.p rfl Ev.assign ?_
  refine Seq.p rfl Ev.assign ?_
  refine Seq.nil ?_
  refine JC.seq ?_
  refine JC.rs ?_
  refine Seq.p rfl (Ev.faB fd.api_Book_1) ?_
  refine Seq.p rfl (Ev.ldB sc.sl_api_Resting) ?_
  refine Seq.p rfl (Ev.faB fd.api_Book_2) ?_
  refine Seq.p rfl (Ev.ldB sc.sl_api_Resting) ?_
  refine Seq.buildSl (hsl := sl.sl_sl_api_Resting) (hz := z.sl_api_Resting) (hcs := rfl) (k := ?_); intro b16
  refine Seq.p rfl (Ev.lenSl sl.sl_sl_api_Resting (hr := RAt.box (enc := fun v : Value => [v]) (xs := [.slice Ab b.buys.length cb, .slice As b.sells.length cs]))) ?_
  refine Seq.p rfl Ev.move ?_
  refine Seq.nil ?_
  generalize hV : [Value.slice Ab b.buys.length cb, .slice As b.sells.length cs] = V
  generalize hL : [b.buys, b.sells] = L
  have hR : ∀ i, i < 2 → RSl Resting.enc 7 w [] V[i]! L[i]! := by
    intro i hi
    subst hV hL
    rcases i with _ | _ | i
    · exact hb
    · exact hs
    · omega
  have hVl : V.length = 2 := by subst hV; rfl
  refine JC.blk ?_
  refine JC.loop (α := Nat) (I := fun i e1 H1 => Has [4, 5, 7, 8, 9, 11, 18, 19, 20, 21, 22, 23, 24, 25, 26, 27, 28, 29, 30, 31, 32, 33, 34, 35, 36, 37, 38, 39, 40, 41, 42, 43, 44, 45, 46, 47, 48, 49] [(18, .int .i64 (i : Int))] _ e1 ∧ H1 = _ ∧ i ≤ 2 ∧ ∀ j, j < i → aheadIn L[j]! id = none) (μ := fun i => 2 - i) 0 ⟨Has.mk Off.refl (allLook_cons (by repeat (first | exact Look.here | apply Look.there (hne := rfl) | exact Look.const | apply Look.mix rfl | exact Look.arg0 | apply Look.args | exact Look.func)) allLook_nil), rfl, by omega, by omega⟩ ?_
  rintro i _ _ ⟨⟨u, rfl⟩, rfl, hi, hlt⟩; dsimp only [setL]
  refine JC.rs ?_
  refine Seq.p rfl Ev.lt ?_
  refine Seq.nil ?_
  refine JC.seq ?_
  refine JC.c (ht := fun hc => ?_) (hf := fun hc => ?_)
  · -- t19
    have hi2 : i < 2 := by simp at hc; omega
    have hri := hR i hi2
    have hsm := hri.small
    generalize hvi : V[i]! = vi at hri
    generalize hli : L[i]! = li at hri hsm
    refine JC.skip ?_
    refine JC.seq ?_
    refine JC.blk ?_
    refine JC.rs ?_
    refine Seq.p rfl (Ev.iaN sl.sl_sl_api_Resting (hr := RAt.box (enc := fun v : Value => [v]) (xs := V) (hcs := by subst hV; rfl) (hm := by rw [hVl]) (hs := by omega)) (hi := by omega)) ?_
    refine Seq.p rfl (Ev.ldE1 sc.sl_api_Resting (hr := RAt.box (enc := fun v : Value => [v]) (xs := V) (hcs := by subst hV; rfl) (hm := by rw [hVl]) (hs := by omega))) ?_
    rw [hvi]
    refine Seq.p rfl Ev.assign ?_
    refine Seq.nil ?_
    refine JC.rs ?_
    refine Seq.p rfl Ev.move ?_
    refine Seq.p rfl Ev.func ?_
    refine Seq.callP rfl (fun w' hw => indexFunc (first := []) (cap := [.pointer (some ⟨b3, 0, none⟩)]) (p := fun o => decide (o.id = id)) (hri.up hw) (fun x w'' h => aheadClosure ((box_cell hw (At.s At.z) rfl).at_ h))) ?_
    refine Seq.p rfl Ev.assign ?_
    refine Seq.nil ?_
    refine JC.seq ?_
    refine JC.rs ?_
    refine Seq.p rfl Ev.move ?_
    refine Seq.p rfl Ev.lt ?_
    refine Seq.nil ?_
    cases hf : li.findIdx? (fun o => decide (o.id = id)) with
    | none =>
      have h0 : idxOf (fun o => decide (o.id = id)) li = -1 := by unfold idxOf; rw [hf]
      rw [h0]
      refine JC.c (ht := fun _ => ?_) (hf := fun hc => absurd (by decide) hc)
      refine JC.exit ?_ -- 1
      refine JC.reg ?_
      refine Seq.p rfl (by first | exact Ev.inc | exact Ev.add) ?_
      refine Seq.p rfl Ev.move ?_
      refine Seq.nil ?_
      refine ⟨i + 1, _, Part.refl _, ⟨Has.mk (by repeat (first | refine Off.upd ?_ rfl | exact Off.mix | refine Off.mix2 ?_ rfl | exact Off.refl)) (allLook_cons (by repeat (first | exact Look.here | apply Look.there (hne := rfl) | exact Look.const | apply Look.mix rfl | exact Look.arg0 | apply Look.args | exact Look.func)) allLook_nil), rfl, by omega, ?_⟩, by omega⟩
      intro j hj
      by_cases h : j = i
      · subst h; rw [hli]; unfold aheadIn; rw [hf]; rfl
      · exact hlt j (by omega)
    | some n =>
      have h0 : idxOf (fun o => decide (o.id = id)) li = (n : Int) := by unfold idxOf; rw [hf]
      have hn : n < li.length := by
        rw [List.findIdx?_eq_some_iff_getElem] at hf
        exact hf.1
      rw [h0]
      refine JC.c (ht := fun hc => by omega) (hf := fun hc => ?_)
      refine JC.skip ?_
      refine JC.rs ?_
      refine Seq.p rfl Ev.assign ?_
      refine Seq.nil ?_
      refine JC.seq ?_
      have hrs : RSl Resting.enc 7 w [] (subSl vi 0 n 7) (li.take n) := by simpa using hri.sub (Nat.zero_le n) (Nat.le_of_lt hn)
      have hln : (li.take n).length = n := by simp; omega
      refine JC.rs ?_
      refine Seq.p rfl Ev.move ?_
      refine Seq.p rfl Ev.move ?_
      refine Seq.p rfl (Ev.cut sl.sl_api_Resting (hr := hri.r) (l := 0) (h := n) (hlo := rfl) (hhi := ⟨_, (by repeat (first | exact Look.here | apply Look.there (hne := rfl) | exact Look.const | apply Look.mix rfl | exact Look.arg0 | apply Look.args | exact Look.func))⟩)) ?_
      refine Seq.p rfl (Ev.lenSl sl.sl_api_Resting (hr := hrs.r)) ?_
      refine Seq.p rfl Ev.move ?_
      refine Seq.nil ?_
      refine JC.blk ?_
      refine JC.loop (α := Nat) (I := fun j e1 H1 => Has [9, 11, 31, 32, 33, 34, 35, 36, 37, 38, 39, 40, 41, 42, 43, 44, 45, 46, 47] [(9, .int .u64 (shown (li.take j) li[n]!.price)), (31, .int .i64 (j : Int))] _ e1 ∧ H1 = _ ∧ j ≤ n) (μ := fun j => n - j) 0 ⟨Has.mk Off.refl (allLook_cons (by repeat (first | exact Look.here | apply Look.there (hne := rfl) | exact Look.const | apply Look.mix rfl | exact Look.arg0 | apply Look.args | exact Look.func)) (allLook_cons (by repeat (first | exact Look.here | apply Look.there (hne := rfl) | exact Look.const | apply Look.mix rfl | exact Look.arg0 | apply Look.args | exact Look.func)) allLook_nil)), rfl, by omega⟩ ?_
      rintro j _ _ ⟨⟨u, rfl⟩, rfl, hj⟩; dsimp only [setL]
      refine JC.rs ?_
      refine Seq.p rfl Ev.lt ?_
      refine Seq.nil ?_
      refine JC.seq ?_
      refine JC.c (ht := fun hc => ?_) (hf := fun hc => ?_)
      · -- t32
        have hjn : j < n := by omega
        have hsn := shown_snoc li li[n]!.price j (by omega)
        have hel : (li.take n)[j]! = li[j]! := by
          rw [getElem!_pos _ j (by omega), getElem!_pos li j (by omega)]
          simp
        refine JC.skip ?_
        refine JC.seq ?_
        refine JC.blk ?_
        refine JC.rs ?_
        refine Seq.p rfl (Ev.iaN sl.sl_api_Resting (hr := hrs.r)) ?_
        refine Seq.p rfl (Ev.ldEA ag.api_Resting (hr := hrs.r)) ?_
        rw [hel]
        refine Seq.alloc (hz := z.api_Resting) (k := ?_); intro b11
        refine Seq.store sz.api_Resting (k := ?_)
        refine Seq.nil ?_
        refine JC.qs mixed (by kernel_rfl) ?_
        refine Qui.p rfl (Ev.faB fd.api_Resting_3) ?_
        refine Qui.p rfl (Ev.ldB sc.int) ?_
        refine Qui.p rfl Ev.move ?_
        refine Qui.p rfl Ev.move ?_
        refine Qui.p rfl (Ev.iaN sl.sl_api_Resting (hr := hri.r)) ?_
        refine Qui.p rfl (Ev.fa fd.api_Resting_3) ?_
        refine Qui.p rfl (Ev.ldE sc.int (hr := hri.r)) ?_
        refine Qui.p rfl Ev.eq ?_
        refine Qui.nil ?_
        refine JC.c (ht := fun hc => ?_) (hf := fun hc => ?_)
        · -- t42
          rw [if_pos hc] at hsn
          refine JC.reg ?_
          refine Seq.p rfl Ev.move ?_
          refine Seq.p rfl (Ev.faB fd.api_Resting_4) ?_
          refine Seq.p rfl (Ev.ldB sc.uint64) ?_
          refine Seq.p rfl Ev.addU ?_
          refine Seq.p rfl Ev.assign ?_
          refine Seq.nil ?_
          refine JC.reg ?_
          refine Seq.p rfl (by first | exact Ev.inc | exact Ev.add) ?_
          refine Seq.p rfl Ev.move ?_
          refine Seq.nil ?_
          exact ⟨j + 1, _, Part.skip (Part.refl _), ⟨Has.mk (by repeat (first | refine Off.upd ?_ rfl | exact Off.mix | refine Off.mix2 ?_ rfl | exact Off.refl)) (allLook_cons (by rw [hsn]; repeat (first | exact Look.here | apply Look.there (hne := rfl))) (allLook_cons (by repeat (first | exact Look.here | apply Look.there (hne := rfl) | exact Look.const | apply Look.mix rfl | exact Look.arg0 | apply Look.args | exact Look.func)) allLook_nil)), rfl, by omega⟩, by omega⟩
        · -- not t42
          rw [if_neg hc] at hsn
          refine JC.skip ?_
          refine JC.reg ?_
          refine Seq.p rfl (by first | exact Ev.inc | exact Ev.add) ?_
          refine Seq.p rfl Ev.move ?_
          refine Seq.nil ?_
          exact ⟨j + 1, _, Part.skip (Part.refl _), ⟨Has.mk (by repeat (first | refine Off.upd ?_ rfl | exact Off.mix | refine Off.mix2 ?_ rfl | exact Off.refl)) (allLook_cons (by rw [hsn]; repeat (first | exact Look.here | apply Look.there (hne := rfl))) (allLook_cons (by repeat (first | exact Look.here | apply Look.there (hne := rfl) | exact Look.const | apply Look.mix rfl | exact Look.arg0 | apply Look.args | exact Look.func)) allLook_nil)), rfl, by omega⟩, by omega⟩
      · -- not t32
        have : j = n := by omega
        subst this
        refine JC.exit ?_ -- 2
        refine JC.rs ?_
        refine Seq.p rfl Ev.move ?_
        refine Seq.p rfl Ev.assign ?_
        refine Seq.p rfl Ev.assign ?_
        refine Seq.nil ?_
        refine JC.ret ?_
        show retQ _ _ _ _ _ .ret _ _
        refine ret2 (hp := Part.nil _) (hpost := ?_)
        have hai : aheadIn L[i]! id = some (shown (li.take j) li[j]!.price) := by rw [hli]; unfold aheadIn; rw [hf]; rfl
        have : aheadOf b id = some (shown (li.take j) li[j]!.price) := by
          subst hL
          unfold aheadOf
          rcases i with _ | _ | i
          · have h3 : aheadIn b.buys id = _ := hai
            rw [h3]
          · have h2 : aheadIn b.buys id = none := hlt 0 (by omega)
            have h3 : aheadIn b.sells id = _ := hai
            rw [h2]; exact h3
          · omega
        rw [this]
        rfl
  · -- not t19
    refine JC.exit ?_ -- 0
    refine JC.rs ?_
    refine Seq.p rfl Ev.assign ?_
    refine Seq.p rfl Ev.assign ?_
    refine Seq.nil ?_
    refine JC.ret ?_
    show retQ _ _ _ _ _ .ret _ _
    refine ret2 (hp := Part.nil _) (hpost := ?_)
    have : aheadOf b id = none := by
      subst hL
      have hi2 : i = 2 := by simp at hc; omega
      subst hi2
      have h2 : aheadIn b.buys id = none := hlt 0 (by omega)
      have h3 : aheadIn b.sells id = none := hlt 1 (by omega)
      unfold aheadOf
      rw [h2]
      exact h3
    rw [this]
    rfl
end Go.Rx
