/- A part of the proof: the text M5. -/
import Derived.Test.YtdfleghechbcpaaM4
namespace Go.Rx
open Go Go.RowKit
set_option linter.unusedVariables false
set_option linter.unusedSimpArgs false
def laidStep (ws : List Int) (f : RF) (x : Int) : List Int := ws.set f.word.toNat (add64 ws[f.word.toNat]! (up x f.shift))
def laidGo : List RF → List Int → List Int → List Int
  | f :: l, x :: v, ws => laidGo l v (laidStep ws f x)
  | _, _, ws => ws
theorem laidGo_snoc (l : List RF) (v ws : List Int) (k : Nat) (h1 : k < l.length) (h2 : k < v.length) : laidGo (l.take (k + 1)) (v.take (k + 1)) ws = laidStep (laidGo (l.take k) (v.take k) ws) l[k]! v[k]! := by
  induction k generalizing l v ws with
  | zero =>
    cases l with
    | nil => simp at h1
    | cons f l => cases v with
      | nil => simp at h2
      | cons x v => rfl
  | succ k ih =>
    cases l with
    | nil => simp at h1
    | cons f l => cases v with
      | nil => simp at h2
      | cons x v =>
        simp only [List.length_cons] at h1 h2
        have := ih l v (laidStep ws f x) (by omega) (by omega)
        simp only [List.take_succ_cons, laidGo]
        rw [this]
        simp
theorem set_cells (k : Int) (ws : List Int) (i : Nat) (x : Int) (h : i < ws.length) :
    ((Value.int .u8 k :: ws.map (Value.int .u64)).take (1 + i * 1) ++ [Value.int .u64 x] ++ (Value.int .u8 k :: ws.map (Value.int .u64)).drop (1 + i * 1 + [Value.int .u64 x].length)) = Value.int .u8 k :: (ws.set i x).map (Value.int .u64) := by
  have e1 : 1 + i * 1 = i + 1 := by omega
  rw [e1]
  simp only [List.take_succ_cons, List.length_singleton, List.drop_succ_cons, List.cons_append]
  rw [List.map_set]
  congr 1
  rw [List.set_eq_take_append_cons_drop, if_pos (by simpa using h)]
  simp
theorem get_cells (k : Int) (ws : List Int) (i : Nat) (h : i < ws.length) : (Value.int .u8 k :: ws.map (Value.int .u64))[1 + i * 1]? = some (.int .u64 ws[i]!) := by
  have e1 : 1 + i * 1 = i + 1 := by omega
  rw [e1, List.getElem?_cons_succ, List.getElem?_map, getElem!_pos ws i h]
  simp [h]
theorem list7 {α : Type} {xs : List α} (h : xs.length = 7) : ∃ a b c d e f g, xs = [a, b, c, d, e, f, g] := by
  match xs, h with
  | [a, b, c, d, e, f, g], _ => exact ⟨a, b, c, d, e, f, g, rfl⟩
def laidF (k : Int) (l : List RF) (v : List Int) : Frame := ⟨k % 256, laidGo l v [0, 0, 0, 0, 0, 0, 0]⟩
set_option maxHeartbeats 4000000 in
set_option maxRecDepth 100000 in
theorem refLaid {w : World} {k : Int} {vl vv : Value} {l : List RF} {v : List Int} (hl : RSl RF.enc 4 w [] vl l) (hv : RSl uenc 1 w [] vv v) (hlen : v.length = l.length) (hwd : ∀ f ∈ l, 0 ≤ f.word ∧ f.word < 7 ∧ 0 ≤ f.shift) :
    Spec Go.Proofs.Try.prog 16 #[.int .i64 k, vl, vv] w [] (fun u _ => u = .agg (laidF k l v).enc.toArray) := by
  have hsm := hl.small
  refine Spec.enter (fn := Go.Proofs.Try.f16) (n := 45) [.int .i64 k, vl, vv] Go.Proofs.Try.func16 (by kernel_rfl) rfl Go.Proofs.Try.ntmps16 Go.Proofs.Try.results16 rfl (Own.nil _) ?_
  refine JC.rs ?_
  refine Seq.alloc (cs := [_, _, _, _, _, _, _, _]) (hz := z.api_Frame) (k := ?_); intro b6
  refine Seq.nil ?_
  refine JC.rs ?_
  refine Seq.p rfl Ev.move ?_
  refine Seq.p rfl (Ev.convU8W it.int it.uint8) ?_
  refine Seq.p rfl (Ev.buildN [_, _, _, _, _, _, _, _] pl.api_Frame z.api_Frame) ?_
  refine Seq.alloc (cs := [_, _, _, _, _, _, _, _]) (hz := z.api_Frame) (k := ?_); intro b7
  refine Seq.storeN [_, _, _, _, _, _, _, _] sz.api_Frame (k := ?_)
  refine Seq.nil ?_
  refine JC.seq ?_
  refine JC.rs ?_
  refine Seq.p rfl Ev.assign ?_
  refine Seq.nil ?_
  refine JC.blk ?_
  refine JC.loop (α := Nat × List Int) (I := fun s e1 H1 => Has [8, 12, 13, 14, 15, 16, 17, 18, 19, 20, 21, 22, 23, 24, 25, 26, 27, 28, 29, 30, 31, 32, 33, 34, 35, 36, 37, 38, 39, 40, 41, 42, 43] [(8, .int .i64 (s.1 : Int))] _ e1 ∧ H1 = [.box b7 30 (Value.int .u8 (k % 256) :: s.2.map (Value.int .u64)), .box b6 30 [_, _, _, _, _, _, _, _]] ∧ s.1 ≤ l.length ∧ s.2 = laidGo (l.take s.1) (v.take s.1) [0, 0, 0, 0, 0, 0, 0] ∧ s.2.length = 7) (μ := fun s => l.length - s.1) (0, [0, 0, 0, 0, 0, 0, 0]) ⟨Has.mk Off.refl (allLook_cons (by repeat (first | exact Look.here | apply Look.there (hne := rfl) | exact Look.const | apply Look.mix rfl | exact Look.arg0 | apply Look.args | exact Look.func)) allLook_nil), rfl, by omega, rfl, rfl⟩ ?_
  rintro ⟨i, ws⟩ _ _ ⟨⟨ui, rfl⟩, rfl, hi, hws, h7⟩; dsimp only [setL]; dsimp only at hi hws h7
  refine JC.seq ?_
  refine JC.rs ?_
  refine Seq.p rfl Ev.move ?_
  refine Seq.p rfl Ev.move ?_
  refine Seq.p rfl (Ev.lenSl sl.sl_bourseref04_field (hr := hl.r)) ?_
  refine Seq.p rfl Ev.lt ?_
  refine Seq.nil ?_
  first | refine JC.c (ht := fun c15 => ?_) (hf := fun c15 => ?_) | refine JC.cb (ht := fun c15 => ?_) (hf := fun c15 => ?_)
  · -- then_t15
    have hi2 : i < l.length := by omega
    have hwi := hwd l[i]! (by rw [getElem!_pos l i hi2]; exact List.getElem_mem hi2)
    have hww : l[i]!.word.toNat < ws.length := by omega
    have hg := get_cells (k % 256) ws l[i]!.word.toNat hww
    have hst := set_cells (k % 256) ws l[i]!.word.toNat (add64 ws[l[i]!.word.toNat]! (up v[i]! l[i]!.shift)) hww
    refine JC.skip ?_
    refine JC.seq ?_
    refine JC.blk ?_
    refine JC.anyE 0 mixed ?_
    refine Any.p 0 rfl (by kernel_rfl) (by kernel_rfl) (by kernel_rfl) rfl Ev.move ?_
    refine Any.p 1 rfl (by kernel_rfl) (by kernel_rfl) (by kernel_rfl) rfl Ev.move ?_
    refine Any.p 2 rfl (by kernel_rfl) (by kernel_rfl) (by kernel_rfl) rfl (Ev.iaN sl.sl_bourseref04_field (hr := hl.r)) ?_
    refine Any.p 3 rfl (by kernel_rfl) (by kernel_rfl) (by kernel_rfl) rfl (Ev.fa fd.bourseref04_field_2) ?_
    refine Any.p 4 rfl (by kernel_rfl) (by kernel_rfl) (by kernel_rfl) rfl (Ev.ldE sc.int (hr := hl.r)) ?_
    refine Any.p 5 rfl (by kernel_rfl) (by kernel_rfl) (by kernel_rfl) rfl Ev.move ?_
    refine Any.p 6 rfl (by kernel_rfl) (by kernel_rfl) (by kernel_rfl) rfl Ev.move ?_
    refine Any.p 7 rfl (by kernel_rfl) (by kernel_rfl) (by kernel_rfl) rfl (Ev.iaN sl.sl_bourseref04_field (hr := hl.r)) ?_
    refine Any.p 8 rfl (by kernel_rfl) (by kernel_rfl) (by kernel_rfl) rfl (Ev.fa fd.bourseref04_field_2) ?_
    refine Any.p 9 rfl (by kernel_rfl) (by kernel_rfl) (by kernel_rfl) rfl (Ev.ldE sc.int (hr := hl.r)) ?_
    refine Any.p 10 rfl (by kernel_rfl) (by kernel_rfl) (by kernel_rfl) rfl (Ev.faB fd.api_Frame_1) ?_
    refine Any.p 11 rfl (by kernel_rfl) (by kernel_rfl) (by kernel_rfl) rfl (Ev.iaArrB ar.a7_uint64) ?_
    refine Any.p 13 rfl (by kernel_rfl) (by kernel_rfl) (by kernel_rfl) rfl Ev.move ?_
    refine Any.p 14 rfl (by kernel_rfl) (by kernel_rfl) (by kernel_rfl) rfl Ev.move ?_
    refine Any.p 15 rfl (by kernel_rfl) (by kernel_rfl) (by kernel_rfl) rfl (Ev.iaN sl.sl_uint64 (hr := hv.r)) ?_
    refine Any.p 16 rfl (by kernel_rfl) (by kernel_rfl) (by kernel_rfl) rfl (Ev.ldE1 sc.uint64 (hr := hv.r)) ?_
    refine Any.p 17 rfl (by kernel_rfl) (by kernel_rfl) (by kernel_rfl) rfl Ev.move ?_
    refine Any.p 18 rfl (by kernel_rfl) (by kernel_rfl) (by kernel_rfl) rfl Ev.move ?_
    refine Any.p 19 rfl (by kernel_rfl) (by kernel_rfl) (by kernel_rfl) rfl (Ev.iaN sl.sl_bourseref04_field (hr := hl.r)) ?_
    refine Any.p 20 rfl (by kernel_rfl) (by kernel_rfl) (by kernel_rfl) rfl (Ev.fa fd.bourseref04_field_3) ?_
    refine Any.p 21 rfl (by kernel_rfl) (by kernel_rfl) (by kernel_rfl) rfl (Ev.ldE sc.int (hr := hl.r)) ?_
    refine Any.p 22 rfl (by kernel_rfl) (by kernel_rfl) (by kernel_rfl) rfl Ev.shlW ?_
    refine Any.p 24 rfl (by kernel_rfl) (by kernel_rfl) (by kernel_rfl) rfl (Ev.faB fd.api_Frame_1) ?_
    refine Any.one 12 rfl (by kernel_rfl) ?_
    refine Seq.p rfl (Ev.ldB sc.uint64 (hv := hg)) ?_
    refine Seq.nil ⟨(by repeat (first | exact Part.refl _ | exact Part.nil _ | apply Part.here | apply Part.skip)), ?_⟩
    refine Any.p 23 rfl (by kernel_rfl) (by kernel_rfl) (by kernel_rfl) rfl Ev.addU ?_
    refine Any.p 25 rfl (by kernel_rfl) (by kernel_rfl) (by kernel_rfl) rfl (Ev.iaArrB ar.a7_uint64) ?_
    refine Any.one 26 rfl (by kernel_rfl) ?_
    refine Seq.storeTo sz.uint64 (hfit := by simp only [List.length_cons, List.length_map, List.length_nil]; omega) (hcs := hst) (k := ?_)
    refine Seq.nil ⟨(by repeat (first | exact Part.refl _ | exact Part.nil _ | apply Part.here | apply Part.skip)), ?_⟩
    refine Any.done (by kernel_rfl) ?_
    refine JC.reg ?_
    refine Seq.p rfl Ev.move ?_
    refine Seq.p rfl (by first | exact Ev.inc | exact Ev.add) ?_
    refine Seq.p rfl Ev.assign ?_
    refine Seq.nil ?_
    refine ⟨(i + 1, laidStep ws l[i]! v[i]!), _, Part.refl _, ⟨Has.mk (by repeat (first | refine Off.upd ?_ rfl | exact Off.mix | refine Off.mix2 ?_ rfl | exact Off.refl)) (allLook_cons (by repeat (first | exact Look.here | apply Look.there (hne := rfl) | exact Look.const | apply Look.mix rfl | exact Look.arg0 | apply Look.args | exact Look.func)) allLook_nil), rfl, by show i + 1 ≤ l.length; omega, by show laidStep ws l[i]! v[i]! = laidGo (l.take (i + 1)) (v.take (i + 1)) _; rw [laidGo_snoc l v _ i hi2 (by omega), ← hws], by show (ws.set _ _).length = 7; rw [List.length_set]; exact h7⟩, by show l.length - (i + 1) < l.length - i; omega⟩
  · -- else_t15
    obtain rfl : i = l.length := by omega
    rw [List.take_length, List.take_of_length_le (by omega)] at hws
    obtain ⟨a0, a1, a2, a3, a4, a5, a6, rfl⟩ := list7 h7
    refine JC.exit ?_ -- 0
    refine JC.rs ?_
    refine Seq.p rfl (Ev.ldBA ag.api_Frame) ?_
    refine Seq.storeN [_, _, _, _, _, _, _, _] sz.api_Frame (k := ?_)
    refine Seq.nil ?_
    refine JC.ret ?_
    -- return 0
    show retQ _ _ _ _ _ _ _ _
    refine retB1 ag.api_Frame (hp := Part.nil _) (hpost := ?_)
    rw [laidF, ← hws]
    rfl
theorem refFieldsF_words (k : Int) : ∀ f ∈ refFieldsF k, 0 ≤ f.word ∧ f.word < 7 ∧ 0 ≤ f.shift := by
  have h : ((refFieldsF k).all fun f => decide (0 ≤ f.word ∧ f.word < 7 ∧ 0 ≤ f.shift)) = true := by
    unfold refFieldsF
    split
    · rfl
    · split
      · rfl
      · split
        · rfl
        · split <;> rfl
  intro f hf
  exact of_decide_eq_true (List.all_eq_true.1 h f hf)
theorem valsGo_length {i : Input} : ∀ (l : List RF) (s s' : Input × List Int), valsGo i l s = some s' → s'.2.length = s.2.length + l.length
  | [], s, s', h => by
    simp only [valsGo, Option.some.injEq] at h
    subst h
    rfl
  | f :: r, s, s', h => by
    simp only [valsGo] at h
    cases hs : stepF i f s with
    | none => rw [hs] at h; cases h
    | some t =>
      rw [hs] at h
      have := valsGo_length r t s' h
      unfold stepF at hs
      split at hs
      · cases hs
      · split at hs
        · cases hs
        · simp only [Option.some.injEq] at hs
          subst hs
          simp only [List.length_append, List.length_singleton] at this
          simp only [List.length_cons]
          omega
theorem laidGo_length (l : List RF) (v ws : List Int) : (laidGo l v ws).length = ws.length := by
  induction l generalizing v ws with
  | nil => rfl
  | cons f l ih => cases v with
    | nil => rfl
    | cons x v =>
      simp only [laidGo]
      rw [ih, laidStep, List.length_set]
def refPackF (i : Input) : Frame × Int :=
  if refE i = 0 then (match valsGo i (refFieldsF (nameF i)) (bareF (nameF i), []) with | some s => laidF (nameF i) (refFieldsF (nameF i)) s.2 | none => frame0, 0) else (frame0, refE i)
set_option maxHeartbeats 2000000 in
theorem refPack0 {w : World} {i : Input} (hE : ¬ refE i = 0) : Spec Go.Proofs.Try.prog 7 #[.agg i.enc.toArray] w [] (fun u _ => u = packV (refPackF i)) := by
  refine Spec.enter (fn := Go.Proofs.Try.f7) (n := 22) [.agg i.enc.toArray] Go.Proofs.Try.func7 (by kernel_rfl) rfl Go.Proofs.Try.ntmps7 Go.Proofs.Try.results7 rfl (Own.nil _) ?_
  refine JC.rs ?_
  refine Seq.box (cs := [_, _, _, _, _, _, _, _, _, _, _]) (k := ?_); intro b1
  refine Seq.alloc (cs := [_, _, _, _, _, _, _, _]) (hz := z.api_Frame) (k := ?_); intro b2
  refine Seq.p rfl Ev.assign ?_
  refine Seq.nil ?_
  refine JC.rs ?_
  refine Seq.p rfl (Ev.ldBA ag.api_Input) ?_
  refine Seq.call rfl (fun w hw => refValues) (F := _) (by exact List.Perm.refl _) ?_
  intro u N hN
  rw [ValuesPost, if_neg hE] at hN
  subst hN
  refine Seq.re (fun w h => h.part ⟨N, List.perm_append_comm⟩) ?_
  refine Seq.p rfl Ev.move ?_
  refine Seq.p rfl Ev.extract ?_
  refine Seq.p rfl Ev.extract ?_
  refine Seq.p rfl Ev.assign ?_
  refine Seq.p rfl Ev.assign ?_
  refine Seq.nil ?_
  refine JC.seq ?_
  refine JC.rs ?_
  refine Seq.p rfl Ev.move ?_
  refine Seq.p rfl Ev.ne ?_
  refine Seq.nil ?_
  first | refine JC.c (ht := fun c12 => ?_) (hf := fun c12 => ?_) | refine JC.cb (ht := fun c12 => ?_) (hf := fun c12 => ?_)
  · -- then_t12
    refine JC.rs ?_
    refine Seq.p rfl (Ev.buildN [_, _, _, _, _, _, _, _] pl.api_Frame z.api_Frame) ?_
    refine Seq.p rfl Ev.move ?_
    refine Seq.storeN [_, _, _, _, _, _, _, _] sz.api_Frame (k := ?_)
    refine Seq.p rfl Ev.assign ?_
    refine Seq.nil ?_
    refine JC.ret ?_
    -- return 0
    show retQ _ _ _ _ _ _ _ _
    refine retB2 ag.api_Frame (hp := Part.nil _) (hpost := ?_)
    rw [refPackF, if_neg hE]
    rfl
  · -- else_t12
    exact absurd hE c12
set_option maxHeartbeats 4000000 in
set_option maxRecDepth 100000 in
theorem refPack1 {w : World} {i : Input} (hE : refE i = 0) : Spec Go.Proofs.Try.prog 7 #[.agg i.enc.toArray] w [] (fun u _ => u = packV (refPackF i)) := by
  have hsm := refFieldsF_small (nameF i)
  refine Spec.enter (fn := Go.Proofs.Try.f7) (n := 22) [.agg i.enc.toArray] Go.Proofs.Try.func7 (by kernel_rfl) rfl Go.Proofs.Try.ntmps7 Go.Proofs.Try.results7 rfl (Own.nil _) ?_
  refine JC.rs ?_
  refine Seq.box (cs := [_, _, _, _, _, _, _, _, _, _, _]) (k := ?_); intro b1
  refine Seq.alloc (cs := [_, _, _, _, _, _, _, _]) (hz := z.api_Frame) (k := ?_); intro b2
  refine Seq.p rfl Ev.assign ?_
  refine Seq.nil ?_
  refine JC.rs ?_
  refine Seq.p rfl (Ev.ldBA ag.api_Input) ?_
  refine Seq.call rfl (fun w hw => refValues) (F := _) (by exact List.Perm.refl _) ?_
  intro u N hN
  rw [ValuesPost, if_pos hE] at hN
  obtain ⟨s, A, cc, hn0, hv, rfl, rfl⟩ := hN
  have hls : s.2.length = (refFieldsF (nameF i)).length := by have := valsGo_length _ _ _ hv; simpa using this
  obtain ⟨a0, a1, a2, a3, a4, a5, a6, h7⟩ := list7 (laidGo_length (refFieldsF (nameF i)) s.2 [0, 0, 0, 0, 0, 0, 0])
  have hL : laidF (nameF i) (refFieldsF (nameF i)) s.2 = ⟨nameF i % 256, [a0, a1, a2, a3, a4, a5, a6]⟩ := by rw [laidF, h7]
  refine Seq.p rfl Ev.move ?_
  refine Seq.p rfl Ev.extract ?_
  refine Seq.p rfl Ev.extract ?_
  refine Seq.p rfl Ev.assign ?_
  refine Seq.p rfl Ev.assign ?_
  refine Seq.nil ?_
  refine JC.seq ?_
  refine JC.rs ?_
  refine Seq.p rfl Ev.move ?_
  refine Seq.p rfl Ev.ne ?_
  refine Seq.nil ?_
  first | refine JC.c (ht := fun c12 => ?_) (hf := fun c12 => ?_) | refine JC.cb (ht := fun c12 => ?_) (hf := fun c12 => ?_)
  · -- then_t12
    exact absurd rfl c12
  · -- else_t12
    refine JC.skip ?_
    refine JC.asE 1 mixed ?_
    refine Any.p 0 rfl (by kernel_rfl) (by kernel_rfl) (by kernel_rfl) rfl (Ev.ldBA ag.api_Input) ?_
    refine Any.p 2 rfl (by kernel_rfl) (by kernel_rfl) (by kernel_rfl) rfl (Ev.ldBA ag.api_Input) ?_
    refine Any.p 5 rfl (by kernel_rfl) (by kernel_rfl) (by kernel_rfl) rfl Ev.move ?_
    refine Any.one 1 rfl (by kernel_rfl) ?_
    refine Seq.callP rfl (fun w hw => refName) ?_
    refine Seq.nil ⟨(by repeat (first | exact Part.refl _ | exact Part.nil _ | apply Part.here | apply Part.skip)), ?_⟩
    refine Any.one 3 rfl (by kernel_rfl) ?_
    refine Seq.callP rfl (fun w hw => refName) ?_
    refine Seq.nil ⟨(by repeat (first | exact Part.refl _ | exact Part.nil _ | apply Part.here | apply Part.skip)), ?_⟩
    refine Any.one 4 rfl (by kernel_rfl) ?_
    refine Seq.call rfl (fun w hw => refFields (nameF_range i hn0)) (F := _) (by exact List.Perm.refl _) ?_
    rintro _ _ ⟨bl, rfl, rfl⟩
    refine Seq.nil ⟨(by repeat (first | exact Part.refl _ | exact Part.nil _ | apply Part.here | apply Part.skip)), ?_⟩
    refine Any.one 6 rfl (by kernel_rfl) ?_
    refine Seq.callP rfl (fun w hw => hL ▸ refLaid (RAt.up (RAt.box (enc := RF.enc) (sz := 4) (hs := by omega)) hw) (RAt.up (RAt.own (enc := uenc) (xs := s.2) (sz := 1) (hs := by omega)) hw) hls (refFieldsF_words _)) ?_
    refine Seq.nil ⟨(by repeat (first | exact Part.refl _ | exact Part.nil _ | apply Part.here | apply Part.skip)), ?_⟩
    refine Any.one 7 rfl (by kernel_rfl) ?_
    refine Seq.storeN [_, _, _, _, _, _, _, _] sz.api_Frame (k := ?_)
    refine Seq.nil ⟨(by repeat (first | exact Part.refl _ | exact Part.nil _ | apply Part.here | apply Part.skip)), ?_⟩
    refine Any.p 8 rfl (by kernel_rfl) (by kernel_rfl) (by kernel_rfl) rfl Ev.assign ?_
    refine Any.done (by kernel_rfl) ?_
    refine JC.ret ?_
    -- return 0
    show retQ _ _ _ _ _ _ _ _
    refine retB2 ag.api_Frame (hp := Part.nil _) (hpost := ?_)
    rw [refPackF, if_pos hE, hv]
    show _ = packV (laidF (nameF i) (refFieldsF (nameF i)) s.2, 0)
    rw [hL]
    rfl
theorem refPack {w : World} {i : Input} : Spec Go.Proofs.Try.prog 7 #[.agg i.enc.toArray] w [] (fun u _ => u = packV (refPackF i)) := by
  by_cases hE : refE i = 0
  · exact refPack1 hE
  · exact refPack0 hE
end Go.Rx
