/- Parts of the proof. -/
import Derived.Test.YtalmofeanikjhaaPart2
set_option linter.unusedVariables false
set_option linter.unusedSimpArgs false
/- The law's pair of books: one step. (printed by gen_oz8.py) -/
namespace Go.Rx
open Go Go.RowKit
set_option linter.unusedVariables false
set_option linter.unusedSimpArgs false
theorem side_len {b : Bk} (h : b.live) (q : Int) : (sideF b q).length ≤ 4096 := by
  have h1 := h.2.1.1
  have h2 := h.2.1.2
  unfold sideF
  split
  · exact h1
  · split
    · exact h2
    · simp
abbrev stepL (kind : Int) (c : Cmd) (x : Bk) (vb vs : Value) (side most : Int) (id : Nat) : List Value := [.int .i64 kind, .int .i64 c.kind, .int .u64 (c.id : Int), .int .u64 (c.target : Int), .int .u32 (c.member : Int), .int .i64 c.side, .int .i64 c.type, .int .i64 c.price, .int .u64 (c.qty : Int), .int .u64 (c.peak : Int), .int .i64 x.cap, .int .i64 x.meet, vb, vs, .int .u64 (x.high : Int), .int .u64 (x.seq : Int), .int .i64 side, .int .i64 most, .int .u64 (id : Int)]
def LoadIs (px bk : Nat) : Prop := ∀ {w : World} {mb c1 c2 : Nat} {s : TS} {b x : Bk} {A1 A2 : Option Addr} {va vc : Value}, TOk s b → BOk b → x.fits → x.buys.length * 56 + 56 ≤ 140737488355328 → x.sells.length * 56 + 56 ≤ 140737488355328 → RSl Rst.enc 7 w (pairL px s bk mb b A1 c1 A2 c2) va x.buys → RSl Rst.enc 7 w (pairL px s bk mb b A1 c1 A2 c2) vc x.sells → Own w (pairL px s bk mb b A1 c1 A2 c2) →
    Spec Go.Proofs.Try.prog 16 #[.pointer (some ⟨px, 0, none⟩), .agg (x.cells va vc).toArray] w (pairL px s bk mb b A1 c1 A2 c2) (fun u H' => u = .bool true ∧ PairIs px bk H')
def DoesIs (px bk : Nat) : Prop := ∀ {w : World} {mb c1 c2 : Nat} {s : TS} {b : Bk} {c : Cmd} {A1 A2 : Option Addr}, TOk s b → BOk b → c.fits → Own w (pairL px s bk mb b A1 c1 A2 c2) →
    Spec Go.Proofs.Try.prog 18 #[.pointer (some ⟨px, 0, none⟩), .agg c.enc.toArray] w (pairL px s bk mb b A1 c1 A2 c2) (fun u H' => u = .bool true ∧ PairIs px bk H')
set_option maxHeartbeats 16000000 in
set_option maxRecDepth 100000 in
theorem lawStep {w : World} {px bk mb c1 c2 id : Nat} {s : TS} {b x : Bk} {c : Cmd} {A1 A2 : Option Addr} {kind side most : Int} {vb vs : Value} (hDoes : kind = 0 → DoesIs px bk) (hLoad : kind = 2 ∨ kind = 3 → LoadIs px bk) (hT : TOk s b) (hb : BOk b) (hc : c.fits) (hx : x.fits) (hxb : x.buys.length * 56 + 56 ≤ 140737488355328) (hxs : x.sells.length * 56 + 56 ≤ 140737488355328)
    (hvb : RSl Rst.enc 7 w (pairL px s bk mb b A1 c1 A2 c2) vb x.buys) (hvs : RSl Rst.enc 7 w (pairL px s bk mb b A1 c1 A2 c2) vs x.sells) (hO : Own w (pairL px s bk mb b A1 c1 A2 c2)) :
    Spec Go.Proofs.Try.prog 25 #[.pointer (some ⟨px, 0, none⟩), .agg (stepL kind c x vb vs side most id).toArray] w (pairL px s bk mb b A1 c1 A2 c2) (fun u H' => u = .bool true ∧ PairIs px bk H') := by
  have hl := hb.live
  have hl1 := hl.2.1.1
  have hl2 := hl.2.1.2
  have hsl := fun q => side_len hl q
  have hsz1 : s.t1.size ≤ 100000 := by have := (hT.one.small (fun r hr => (hl.2.2 r (List.mem_append_left _ hr)).1) hl.2.1.1).1; omega
  have hsz2 : s.t2.size ≤ 100000 := by have := (hT.two.small (fun r hr => (hl.2.2 r (List.mem_append_right _ hr)).1) hl.2.1.2).1; omega
  have hp1 : pricesF none b.buys = s.t1.size := hT.prices (q := 1) (by decide)
  have hp2 : pricesF none b.sells = s.t2.size := hT.prices (q := 2) (by decide)
  have hdl : (depthF b side most).length ≤ 4096 := by
    have h1 := depth_len most (sideF b side) []
    have h2 := hsl side
    unfold depthF
    simp at h1
    omega
  have hown : PairIs px bk (pairL px s bk mb b A1 c1 A2 c2) := ⟨s, b, mb, A1, A2, c1, c2, hT, hb, rfl⟩
  refine Spec.enter (fn := Go.Proofs.Try.f25) (n := 218) [.pointer (some ⟨px, 0, none⟩), .agg (stepL kind c x vb vs side most id).toArray] Go.Proofs.Try.func25 (by kernel_rfl) rfl Go.Proofs.Try.ntmps25 Go.Proofs.Try.results25 rfl hO ?_
  refine JC.rs ?_
  refine Seq.box (cs := [_, _, _, _, _, _, _, _, _, _, _, _, _, _, _, _, _, _, _]) (k := ?_); intro b3
  refine Seq.p rfl Ev.assign ?_
  refine Seq.nil ?_
  refine JC.seq ?_
  refine JC.rs ?_
  refine Seq.p rfl (Ev.faB fd.bourselaw10_Step_0) ?_
  refine Seq.p rfl (Ev.ldB sc.int) ?_
  refine Seq.nil ?_
  refine JC.blk ?_
  refine JC.rs ?_
  refine Seq.p rfl Ev.eq ?_
  refine Seq.p rfl Ev.assign ?_
  refine Seq.nil ?_
  first | refine JC.c (ht := fun c25 => ?_) (hf := fun c25 => ?_) | refine JC.cb (ht := fun c25 => ?_) (hf := fun c25 => ?_)
  · -- then_t25
    refine JC.rs ?_
    refine Seq.p rfl Ev.move ?_
    refine Seq.p rfl (Ev.faB fd.bourselaw10_Step_1) ?_
    refine Seq.p rfl (Ev.asR (v' := .agg c.enc.toArray) (Ev.ldBPN c.enc ag.api_Command) rfl) ?_
    refine Seq.call rfl (fun w' hw => hDoes (by omega) hT hb hc (Part.own (by repeat (first | exact Part.nil _ | refine Part.at (by repeat (first | exact At.z | apply At.s)) ?_)) hw.own)) (Gs := pairL px s bk mb b A1 c1 A2 c2) (F := _) (Perm.at (by repeat (first | exact At.z | apply At.s)) (Perm.at (by repeat (first | exact At.z | apply At.s)) (Perm.at (by repeat (first | exact At.z | apply At.s)) (Perm.at (by repeat (first | exact At.z | apply At.s)) (Perm.at (by repeat (first | exact At.z | apply At.s)) (Perm.at (by repeat (first | exact At.z | apply At.s)) (Perm.at (by repeat (first | exact At.z | apply At.s)) (Perm.at (by repeat (first | exact At.z | apply At.s)) (Perm.at (by repeat (first | exact At.z | apply At.s)) (Perm.none _)))))))))) ?_
    rintro _ _ ⟨rfl, s', b', mb', B1, B2, d1, d2, hT', hb', rfl⟩
    try simp only [List.cons_append, List.nil_append, List.eraseIdx_cons_zero, List.eraseIdx_cons_succ, List.set_cons_zero, List.set_cons_succ]
    refine Seq.p rfl Ev.assign ?_
    refine Seq.nil ?_
    refine JC.ret ?_
    show retQ _ _ _ _ _ _ _ _
    refine ret1 (hp := (show Part (pairL px s' bk mb' b' B1 d1 B2 d2) _ from (by repeat (first | exact Part.nil _ | refine Part.at (by repeat (first | exact At.z | apply At.s)) ?_)))) (hpost := ?_)
    exact ⟨rfl, s', b', mb', B1, B2, d1, d2, hT', hb', rfl⟩
  · -- else_t25
    refine JC.rs ?_
    refine Seq.p rfl Ev.eq ?_
    refine Seq.p rfl Ev.assign ?_
    refine Seq.nil ?_
    first | refine JC.c (ht := fun c31 => ?_) (hf := fun c31 => ?_) | refine JC.cb (ht := fun c31 => ?_) (hf := fun c31 => ?_)
    · -- then_t31
      refine JC.rs ?_
      refine Seq.p rfl Ev.move ?_
      refine Seq.call rfl (fun w' hw => lawTold hT hb (Part.own (by repeat (first | exact Part.nil _ | refine Part.at (by repeat (first | exact At.z | apply At.s)) ?_)) hw.own)) (Gs := pairL px s bk mb b A1 c1 A2 c2) (F := _) (Perm.at (by repeat (first | exact At.z | apply At.s)) (Perm.at (by repeat (first | exact At.z | apply At.s)) (Perm.at (by repeat (first | exact At.z | apply At.s)) (Perm.at (by repeat (first | exact At.z | apply At.s)) (Perm.at (by repeat (first | exact At.z | apply At.s)) (Perm.at (by repeat (first | exact At.z | apply At.s)) (Perm.at (by repeat (first | exact At.z | apply At.s)) (Perm.at (by repeat (first | exact At.z | apply At.s)) (Perm.at (by repeat (first | exact At.z | apply At.s)) (Perm.none _)))))))))) ?_
      rintro _ _ ⟨rfl, rfl⟩
      try simp only [List.cons_append, List.nil_append, List.eraseIdx_cons_zero, List.eraseIdx_cons_succ, List.set_cons_zero, List.set_cons_succ]
      refine Seq.p rfl Ev.assign ?_
      refine Seq.nil ?_
      refine JC.ret ?_
      show retQ _ _ _ _ _ _ _ _
      refine ret1 (hp := (show Part (pairL px s bk mb b A1 c1 A2 c2) _ from (by repeat (first | exact Part.nil _ | refine Part.at (by repeat (first | exact At.z | apply At.s)) ?_)))) (hpost := ?_)
      refine ⟨?_, hown⟩
      simp [*]
    · -- else_t31
      refine JC.rs ?_
      refine Seq.p rfl Ev.eq ?_
      refine Seq.p rfl Ev.assign ?_
      refine Seq.nil ?_
      first | refine JC.c (ht := fun c35 => ?_) (hf := fun c35 => ?_) | refine JC.cb (ht := fun c35 => ?_) (hf := fun c35 => ?_)
      · -- then_t35
        refine JC.rs ?_
        refine Seq.p rfl Ev.move ?_
        refine Seq.p rfl (Ev.faB fd.bourselaw10_Step_2) ?_
        refine Seq.p rfl (Ev.asR (v' := .agg (x.cells vb vs).toArray) (Ev.ldBPN (x.cells vb vs) ag.api_Book) rfl) ?_
        refine Seq.call rfl (fun w' hw => hLoad (by omega) hT hb hx hxb hxs ((hvb.at_ hw).part (by repeat (first | exact Part.nil _ | refine Part.at (by repeat (first | exact At.z | apply At.s)) ?_))) ((hvs.at_ hw).part (by repeat (first | exact Part.nil _ | refine Part.at (by repeat (first | exact At.z | apply At.s)) ?_))) (Part.own (by repeat (first | exact Part.nil _ | refine Part.at (by repeat (first | exact At.z | apply At.s)) ?_)) hw.own)) (Gs := pairL px s bk mb b A1 c1 A2 c2) (F := _) (Perm.at (by repeat (first | exact At.z | apply At.s)) (Perm.at (by repeat (first | exact At.z | apply At.s)) (Perm.at (by repeat (first | exact At.z | apply At.s)) (Perm.at (by repeat (first | exact At.z | apply At.s)) (Perm.at (by repeat (first | exact At.z | apply At.s)) (Perm.at (by repeat (first | exact At.z | apply At.s)) (Perm.at (by repeat (first | exact At.z | apply At.s)) (Perm.at (by repeat (first | exact At.z | apply At.s)) (Perm.at (by repeat (first | exact At.z | apply At.s)) (Perm.none _)))))))))) ?_
        rintro _ _ ⟨rfl, s', b', mb', B1, B2, d1, d2, hT', hb', rfl⟩
        try simp only [List.cons_append, List.nil_append, List.eraseIdx_cons_zero, List.eraseIdx_cons_succ, List.set_cons_zero, List.set_cons_succ]
        refine Seq.p rfl Ev.assign ?_
        refine Seq.nil ?_
        refine JC.ret ?_
        show retQ _ _ _ _ _ _ _ _
        refine ret1 (hp := (show Part (pairL px s' bk mb' b' B1 d1 B2 d2) _ from (by repeat (first | exact Part.nil _ | refine Part.at (by repeat (first | exact At.z | apply At.s)) ?_)))) (hpost := ?_)
        exact ⟨rfl, s', b', mb', B1, B2, d1, d2, hT', hb', rfl⟩
      · -- else_t35
        refine JC.rs ?_
        refine Seq.p rfl Ev.eq ?_
        refine Seq.p rfl Ev.assign ?_
        refine Seq.nil ?_
        first | refine JC.c (ht := fun c41 => ?_) (hf := fun c41 => ?_) | refine JC.cb (ht := fun c41 => ?_) (hf := fun c41 => ?_)
        · -- then_t41
          refine JC.rs ?_
          refine Seq.p rfl Ev.move ?_
          refine Seq.p rfl Ev.move ?_
          refine Seq.p rfl Ev.nilP ?_
          refine Seq.p rfl (Ev.faB fd.bourselaw10_pair_1) ?_
          refine Seq.p rfl (Ev.asR (v' := .agg (b.cells (.slice A1 b.buys.length c1) (.slice A2 b.sells.length c2)).toArray) (Ev.ldBPN (b.cells (.slice A1 b.buys.length c1) (.slice A2 b.sells.length c2)) ag.api_Book) rfl) ?_
          refine Seq.call rfl (fun w' hw => ref9Copy (RAt.up (RAt.own (enc := Rst.enc) (v := .slice A1 b.buys.length c1) (xs := b.buys) (hs := by omega)) hw) (RAt.up (RAt.own (enc := Rst.enc) (v := .slice A2 b.sells.length c2) (xs := b.sells) (hs := by omega)) hw) (by omega) (by omega)) (Gs := []) (F := _) (by exact List.Perm.refl _) ?_
          rintro _ _ ⟨A3, c3, A4, c4, rfl, rfl⟩
          try simp only [List.cons_append, List.nil_append, List.eraseIdx_cons_zero, List.eraseIdx_cons_succ, List.set_cons_zero, List.set_cons_succ]
          refine Seq.call rfl (fun w' hw => hLoad (by omega) hT hb hb.fits (by omega) (by omega) ((RSl.owned (enc := Rst.enc) (v := .slice A3 b.buys.length c3) (xs := b.buys) (by repeat (first | exact At.z | apply At.s)) hw rfl rfl (by intro _; rfl) (by omega)).part (by repeat (first | exact Part.nil _ | refine Part.at (by repeat (first | exact At.z | apply At.s)) ?_))) ((RSl.owned (enc := Rst.enc) (v := .slice A4 b.sells.length c4) (xs := b.sells) (by repeat (first | exact At.z | apply At.s)) hw rfl rfl (by intro _; rfl) (by omega)).part (by repeat (first | exact Part.nil _ | refine Part.at (by repeat (first | exact At.z | apply At.s)) ?_))) (Part.own (by repeat (first | exact Part.nil _ | refine Part.at (by repeat (first | exact At.z | apply At.s)) ?_)) hw.own)) (Gs := pairL px s bk mb b A1 c1 A2 c2) (F := _) (Perm.at (by repeat (first | exact At.z | apply At.s)) (Perm.at (by repeat (first | exact At.z | apply At.s)) (Perm.at (by repeat (first | exact At.z | apply At.s)) (Perm.at (by repeat (first | exact At.z | apply At.s)) (Perm.at (by repeat (first | exact At.z | apply At.s)) (Perm.at (by repeat (first | exact At.z | apply At.s)) (Perm.at (by repeat (first | exact At.z | apply At.s)) (Perm.at (by repeat (first | exact At.z | apply At.s)) (Perm.at (by repeat (first | exact At.z | apply At.s)) (Perm.none _)))))))))) ?_
          rintro _ _ ⟨rfl, s', b', mb', B1, B2, d1, d2, hT', hb', rfl⟩
          try simp only [List.cons_append, List.nil_append, List.eraseIdx_cons_zero, List.eraseIdx_cons_succ, List.set_cons_zero, List.set_cons_succ]
          refine Seq.p rfl Ev.assign ?_
          refine Seq.nil ?_
          refine JC.ret ?_
          show retQ _ _ _ _ _ _ _ _
          refine ret1 (hp := (show Part (pairL px s' bk mb' b' B1 d1 B2 d2) _ from (by repeat (first | exact Part.nil _ | refine Part.at (by repeat (first | exact At.z | apply At.s)) ?_)))) (hpost := ?_)
          exact ⟨rfl, s', b', mb', B1, B2, d1, d2, hT', hb', rfl⟩
        · -- else_t41
          refine JC.rs ?_
          refine Seq.p rfl Ev.eq ?_
          refine Seq.p rfl Ev.assign ?_
          refine Seq.nil ?_
          first | refine JC.c (ht := fun c50 => ?_) (hf := fun c50 => ?_) | refine JC.cb (ht := fun c50 => ?_) (hf := fun c50 => ?_)
          · -- then_t50
            refine JC.cutE (fun e0 e' H' => ∃ b5, Has [5, 6, 52, 53, 54, 55, 56, 57, 58, 59, 60, 61] [(5, .pointer (some ⟨b5, 0, none⟩)), (6, .bool (bestF b side).2)] e0 e' ∧ Part [.box b5 66 (bestF b side).1.enc, pairC px bk b (.slice A1 b.buys.length c1) (.slice A2 b.sells.length c2), bookC bk b.cap b.meet s.t1.adr s.t2.adr mb b.high b.seq, treeC nodeT s.t1, treeC nodeT s.t2, .mq mb (Value.int .u64) s.ids, levsC 1 s.B, levsC 2 s.S, rstL (.slice A1 b.buys.length c1) b.buys, rstL (.slice A2 b.sells.length c2) b.sells, .box b3 72 (stepL kind c x vb vs side most id)] H') ?_ ?_
            · -- region 11
              refine JC.anyP (H0 := [pairC px bk b (.slice A1 b.buys.length c1) (.slice A2 b.sells.length c2), rstL (.slice A1 b.buys.length c1) b.buys, rstL (.slice A2 b.sells.length c2) b.sells, .box b3 72 (stepL kind c x vb vs side most id)]) mixed (by repeat (first | exact Part.nil _ | refine Part.at (by repeat (first | exact At.z | apply At.s)) ?_)) ?_
              refine Any.p 0 rfl (by kernel_rfl) (by kernel_rfl) (by kernel_rfl) rfl Ev.move ?_
              refine Any.p 1 rfl (by kernel_rfl) (by kernel_rfl) (by kernel_rfl) rfl Ev.nilP ?_
              refine Any.p 2 rfl (by kernel_rfl) (by kernel_rfl) (by kernel_rfl) rfl (Ev.faB fd.bourselaw10_pair_0) ?_
              refine Any.p 3 rfl (by kernel_rfl) (by kernel_rfl) (by kernel_rfl) rfl (Ev.ldB sc.p_treebook_Book) ?_
              refine Any.p 4 rfl (by kernel_rfl) (by kernel_rfl) (by kernel_rfl) rfl (Ev.faB fd.bourselaw10_Step_3) ?_
              refine Any.p 5 rfl (by kernel_rfl) (by kernel_rfl) (by kernel_rfl) rfl (Ev.ldB sc.int) ?_
              refine Any.two 6 10 rfl rfl (by kernel_rfl) ?_ ?_
              · -- first 6
                refine Seq.call rfl (fun w' hw => tbBestL (q := side) hT hl (Part.own (by repeat (first | exact Part.nil _ | refine Part.at (by repeat (first | exact At.z | apply At.s)) ?_)) hw.own)) (Gs := s.all bk mb b) (F := _) (Perm.at (by repeat (first | exact At.z | apply At.s)) (Perm.at (by repeat (first | exact At.z | apply At.s)) (Perm.at (by repeat (first | exact At.z | apply At.s)) (Perm.at (by repeat (first | exact At.z | apply At.s)) (Perm.at (by repeat (first | exact At.z | apply At.s)) (Perm.at (by repeat (first | exact At.z | apply At.s)) (Perm.none _))))))) ?_
                rintro _ _ ⟨rfl, rfl⟩
                try simp only [List.cons_append, List.nil_append, List.eraseIdx_cons_zero, List.eraseIdx_cons_succ, List.set_cons_zero, List.set_cons_succ]
                refine Seq.nil ⟨(by repeat (first | exact Part.nil _ | refine Part.at (by repeat (first | exact At.z | apply At.s)) ?_)), ?_⟩
                refine Any.p 7 rfl (by kernel_rfl) (by kernel_rfl) (by kernel_rfl) rfl Ev.move ?_
                refine Any.p 8 rfl (by kernel_rfl) (by kernel_rfl) (by kernel_rfl) rfl Ev.extract ?_
                refine Any.p 9 rfl (by kernel_rfl) (by kernel_rfl) (by kernel_rfl) rfl Ev.extract ?_
                refine Any.one 10 rfl (by kernel_rfl) ?_
                refine Seq.alloc (cs := [_, _, _]) (hz := z.api_Level) (k := ?_); intro b5
                refine Seq.nil ⟨(by repeat (first | exact Part.nil _ | refine Part.at (by repeat (first | exact At.z | apply At.s)) ?_)), ?_⟩
                refine Any.one 11 rfl (by kernel_rfl) ?_
                refine Seq.storeN [_, _, _] sz.api_Level (k := ?_)
                refine Seq.nil ⟨(by repeat (first | exact Part.nil _ | refine Part.at (by repeat (first | exact At.z | apply At.s)) ?_)), ?_⟩
                refine Any.p 12 rfl (by kernel_rfl) (by kernel_rfl) (by kernel_rfl) rfl Ev.assign ?_
                refine Any.done (by kernel_rfl) ?_
                exact ⟨b5, Has.mk (by repeat (first | refine Off.upd ?_ rfl | exact Off.mix | refine Off.mix2 ?_ rfl | exact Off.refl)) (allLook_cons (by repeat (first | exact Look.here | apply Look.there (hne := rfl) | exact Look.const | apply Look.mix rfl | exact Look.arg0 | apply Look.args | exact Look.func)) (allLook_cons (by repeat (first | exact Look.here | apply Look.there (hne := rfl) | exact Look.const | apply Look.mix rfl | exact Look.arg0 | apply Look.args | exact Look.func)) allLook_nil)), (by repeat (first | exact Part.nil _ | refine Part.at (by repeat (first | exact At.z | apply At.s)) ?_))⟩
              · -- first 10
                refine Seq.alloc (cs := [_, _, _]) (hz := z.api_Level) (k := ?_); intro b5
                refine Seq.nil ⟨(by repeat (first | exact Part.nil _ | refine Part.at (by repeat (first | exact At.z | apply At.s)) ?_)), ?_⟩
                refine Any.one 6 rfl (by kernel_rfl) ?_
                refine Seq.call rfl (fun w' hw => tbBestL (q := side) hT hl (Part.own (by repeat (first | exact Part.nil _ | refine Part.at (by repeat (first | exact At.z | apply At.s)) ?_)) hw.own)) (Gs := s.all bk mb b) (F := _) (Perm.at (by repeat (first | exact At.z | apply At.s)) (Perm.at (by repeat (first | exact At.z | apply At.s)) (Perm.at (by repeat (first | exact At.z | apply At.s)) (Perm.at (by repeat (first | exact At.z | apply At.s)) (Perm.at (by repeat (first | exact At.z | apply At.s)) (Perm.at (by repeat (first | exact At.z | apply At.s)) (Perm.none _))))))) ?_
                rintro _ _ ⟨rfl, rfl⟩
                try simp only [List.cons_append, List.nil_append, List.eraseIdx_cons_zero, List.eraseIdx_cons_succ, List.set_cons_zero, List.set_cons_succ]
                refine Seq.nil ⟨(by repeat (first | exact Part.nil _ | refine Part.at (by repeat (first | exact At.z | apply At.s)) ?_)), ?_⟩
                refine Any.p 7 rfl (by kernel_rfl) (by kernel_rfl) (by kernel_rfl) rfl Ev.move ?_
                refine Any.p 8 rfl (by kernel_rfl) (by kernel_rfl) (by kernel_rfl) rfl Ev.extract ?_
                refine Any.p 9 rfl (by kernel_rfl) (by kernel_rfl) (by kernel_rfl) rfl Ev.extract ?_
                refine Any.one 11 rfl (by kernel_rfl) ?_
                refine Seq.storeN [_, _, _] sz.api_Level (k := ?_)
                refine Seq.nil ⟨(by repeat (first | exact Part.nil _ | refine Part.at (by repeat (first | exact At.z | apply At.s)) ?_)), ?_⟩
                refine Any.p 12 rfl (by kernel_rfl) (by kernel_rfl) (by kernel_rfl) rfl Ev.assign ?_
                refine Any.done (by kernel_rfl) ?_
                exact ⟨b5, Has.mk (by repeat (first | refine Off.upd ?_ rfl | exact Off.mix | refine Off.mix2 ?_ rfl | exact Off.refl)) (allLook_cons (by repeat (first | exact Look.here | apply Look.there (hne := rfl) | exact Look.const | apply Look.mix rfl | exact Look.arg0 | apply Look.args | exact Look.func)) (allLook_cons (by repeat (first | exact Look.here | apply Look.there (hne := rfl) | exact Look.const | apply Look.mix rfl | exact Look.arg0 | apply Look.args | exact Look.func)) allLook_nil)), (by repeat (first | exact Part.nil _ | refine Part.at (by repeat (first | exact At.z | apply At.s)) ?_))⟩
            · -- behind region 11
              rintro _ _ ⟨b5, ⟨u5, rfl⟩, hp5⟩; dsimp only [setL]
              refine JC.re (fun w h => h.part hp5) ?_
              refine JC.as mixed ?_
              refine Any.p 0 rfl (by kernel_rfl) (by kernel_rfl) (by kernel_rfl) rfl Ev.move ?_
              refine Any.p 1 rfl (by kernel_rfl) (by kernel_rfl) (by kernel_rfl) rfl Ev.nilP ?_
              refine Any.p 2 rfl (by kernel_rfl) (by kernel_rfl) (by kernel_rfl) rfl (Ev.faB fd.bourselaw10_pair_1) ?_
              refine Any.p 3 rfl (by kernel_rfl) (by kernel_rfl) (by kernel_rfl) rfl (Ev.asR (v' := .agg (b.cells (.slice A1 b.buys.length c1) (.slice A2 b.sells.length c2)).toArray) (Ev.ldBPN (b.cells (.slice A1 b.buys.length c1) (.slice A2 b.sells.length c2)) ag.api_Book) rfl) ?_
              refine Any.p 4 rfl (by kernel_rfl) (by kernel_rfl) (by kernel_rfl) rfl (Ev.faB fd.bourselaw10_Step_3) ?_
              refine Any.p 5 rfl (by kernel_rfl) (by kernel_rfl) (by kernel_rfl) rfl (Ev.ldB sc.int) ?_
              refine Any.call 6 rfl (by kernel_rfl) (by kernel_rfl) (by kernel_rfl) rfl (fun w hw => ref9Best (by have := hsl side; omega) (RAt.up (RAt.own (enc := Rst.enc) (v := .slice A1 b.buys.length c1) (xs := b.buys) (hs := by omega)) hw) (RAt.up (RAt.own (enc := Rst.enc) (v := .slice A2 b.sells.length c2) (xs := b.sells) (hs := by omega)) hw)) ?_
              refine Any.p 7 rfl (by kernel_rfl) (by kernel_rfl) (by kernel_rfl) rfl Ev.move ?_
              refine Any.p 8 rfl (by kernel_rfl) (by kernel_rfl) (by kernel_rfl) rfl Ev.extract ?_
              refine Any.p 9 rfl (by kernel_rfl) (by kernel_rfl) (by kernel_rfl) rfl Ev.extract ?_
              refine Any.one 10 rfl (by kernel_rfl) ?_
              refine Seq.alloc (cs := [_, _, _]) (hz := z.api_Level) (k := ?_); intro b7
              refine Seq.nil ⟨(by repeat (first | exact Part.refl _ | exact Part.nil _ | apply Part.here | apply Part.skip)), ?_⟩
              refine Any.one 11 rfl (by kernel_rfl) ?_
              refine Seq.storeN [_, _, _] sz.api_Level (k := ?_)
              refine Seq.nil ⟨(by repeat (first | exact Part.refl _ | exact Part.nil _ | apply Part.here | apply Part.skip)), ?_⟩
              refine Any.p 12 rfl (by kernel_rfl) (by kernel_rfl) (by kernel_rfl) rfl Ev.assign ?_
              refine Any.done (by kernel_rfl) ?_
              refine JC.rs ?_
              refine Seq.p rfl (Ev.asR (v' := .agg (bestF b side).1.enc.toArray) (Ev.ldBA ag.api_Level) rfl) ?_
              refine Seq.p rfl (Ev.asR (v' := .agg (bestF b side).1.enc.toArray) (Ev.ldBA ag.api_Level) rfl) ?_
              refine Seq.p rfl (Ev.as (v' := .bool true) (by rw [Lvl.eqL_enc]; simp) (Ev.eqAg (xs := (bestF b side).1.enc) (ys := (bestF b side).1.enc) so.api_Level ag.api_Level gd.api_Level)) ?_
              refine Seq.p rfl Ev.move ?_
              refine Seq.andG (D := [75, 76, 77, 78, 79]) (d := 75) (t := 79) (k := 4) (hn := fun h75 => ?_) (hx := ?_)
              · repeat (first | refine Seq.gn rfl rfl rfl rfl ?_ | refine Seq.gu rfl rfl rfl ?_)
                refine Seq.p rfl Ev.pickF ?_
                exact Seq.nil ⟨rfl, (by repeat (first | with_reducible exact Off.refl | refine Off.upd ?_ rfl | exact Off.mix | refine Off.mix2 ?_ rfl)), Look.here⟩
              apply Exists.intro
              refine ⟨fun h75 => ?_, fun u79 => ?_⟩
              · try simp only [decide_eq_true_eq, decide_eq_false_iff_not, Bool.and_eq_true, Bool.or_eq_true, Bool.not_eq_true', Bool.not_eq_false', Bool.or_eq_false_iff, Bool.and_eq_false_imp] at h75
                refine Seq.gy rfl rfl rfl ?_
                refine Seq.p rfl Ev.move ?_
                refine Seq.gy rfl rfl rfl ?_
                refine Seq.p rfl Ev.move ?_
                refine Seq.gy rfl rfl rfl ?_
                refine Seq.p rfl (Ev.eqB bl.bool) ?_
                refine Seq.p rfl Ev.pickT ?_
                exact Seq.nil ⟨rfl, (by repeat (first | with_reducible exact Off.refl | refine Off.upd ?_ rfl | exact Off.mix | refine Off.mix2 ?_ rfl)), Look.here⟩
              refine Seq.p rfl Ev.assign ?_
              refine Seq.nil ?_
              refine JC.ret ?_
              show retQ _ _ _ _ _ _ _ _
              refine ret1 (hp := (show Part (pairL px s bk mb b A1 c1 A2 c2) _ from (by repeat (first | exact Part.nil _ | refine Part.at (by repeat (first | exact At.z | apply At.s)) ?_)))) (hpost := ?_)
              refine ⟨?_, hown⟩
              simp [*]
          · -- else_t50
            refine JC.rs ?_
            refine Seq.p rfl Ev.eq ?_
            refine Seq.p rfl Ev.assign ?_
            refine Seq.nil ?_
            first | refine JC.c (ht := fun c80 => ?_) (hf := fun c80 => ?_) | refine JC.cb (ht := fun c80 => ?_) (hf := fun c80 => ?_)
            · -- then_t80
              refine JC.asP ([pairC px bk b (.slice A1 b.buys.length c1) (.slice A2 b.sells.length c2), rstL (.slice A1 b.buys.length c1) b.buys, rstL (.slice A2 b.sells.length c2) b.sells, .box b3 72 (stepL kind c x vb vs side most id)]) mixed (by repeat (first | exact Part.nil _ | refine Part.at (by repeat (first | exact At.z | apply At.s)) ?_)) ?_
              refine Any.p 0 rfl (by kernel_rfl) (by kernel_rfl) (by kernel_rfl) rfl Ev.move ?_
              refine Any.p 1 rfl (by kernel_rfl) (by kernel_rfl) (by kernel_rfl) rfl Ev.nilP ?_
              refine Any.p 2 rfl (by kernel_rfl) (by kernel_rfl) (by kernel_rfl) rfl (Ev.faB fd.bourselaw10_pair_0) ?_
              refine Any.p 3 rfl (by kernel_rfl) (by kernel_rfl) (by kernel_rfl) rfl (Ev.ldB sc.p_treebook_Book) ?_
              refine Any.p 4 rfl (by kernel_rfl) (by kernel_rfl) (by kernel_rfl) rfl (Ev.faB fd.bourselaw10_Step_3) ?_
              refine Any.p 5 rfl (by kernel_rfl) (by kernel_rfl) (by kernel_rfl) rfl (Ev.ldB sc.int) ?_
              refine Any.p 6 rfl (by kernel_rfl) (by kernel_rfl) (by kernel_rfl) rfl (Ev.faB fd.bourselaw10_Step_4) ?_
              refine Any.p 7 rfl (by kernel_rfl) (by kernel_rfl) (by kernel_rfl) rfl (Ev.ldB sc.int) ?_
              refine Any.one 8 rfl (by kernel_rfl) ?_
              refine Seq.call rfl (fun w' hw => tbDepthT (q := side) (most := most) hT hl (Part.own (by repeat (first | exact Part.nil _ | refine Part.at (by repeat (first | exact At.z | apply At.s)) ?_)) hw.own)) (Gs := s.all bk mb b) (F := _) (Perm.at (by repeat (first | exact At.z | apply At.s)) (Perm.at (by repeat (first | exact At.z | apply At.s)) (Perm.at (by repeat (first | exact At.z | apply At.s)) (Perm.at (by repeat (first | exact At.z | apply At.s)) (Perm.at (by repeat (first | exact At.z | apply At.s)) (Perm.at (by repeat (first | exact At.z | apply At.s)) (Perm.none _))))))) ?_
              rintro _ _ ⟨A5, c5, rfl, rfl⟩
              try simp only [List.cons_append, List.nil_append, List.eraseIdx_cons_zero, List.eraseIdx_cons_succ, List.set_cons_zero, List.set_cons_succ]
              refine Seq.nil ⟨(by repeat (first | exact Part.nil _ | refine Part.at (by repeat (first | exact At.z | apply At.s)) ?_)), ?_⟩
              refine Any.p 9 rfl (by kernel_rfl) (by kernel_rfl) (by kernel_rfl) rfl Ev.assign ?_
              refine Any.done (by kernel_rfl) ?_
              refine JC.as mixed ?_
              refine Any.p 0 rfl (by kernel_rfl) (by kernel_rfl) (by kernel_rfl) rfl Ev.move ?_
              refine Any.p 1 rfl (by kernel_rfl) (by kernel_rfl) (by kernel_rfl) rfl Ev.nilP ?_
              refine Any.p 2 rfl (by kernel_rfl) (by kernel_rfl) (by kernel_rfl) rfl (Ev.faB fd.bourselaw10_pair_1) ?_
              refine Any.p 3 rfl (by kernel_rfl) (by kernel_rfl) (by kernel_rfl) rfl (Ev.asR (v' := .agg (b.cells (.slice A1 b.buys.length c1) (.slice A2 b.sells.length c2)).toArray) (Ev.ldBPN (b.cells (.slice A1 b.buys.length c1) (.slice A2 b.sells.length c2)) ag.api_Book) rfl) ?_
              refine Any.p 4 rfl (by kernel_rfl) (by kernel_rfl) (by kernel_rfl) rfl (Ev.faB fd.bourselaw10_Step_3) ?_
              refine Any.p 5 rfl (by kernel_rfl) (by kernel_rfl) (by kernel_rfl) rfl (Ev.ldB sc.int) ?_
              refine Any.p 6 rfl (by kernel_rfl) (by kernel_rfl) (by kernel_rfl) rfl (Ev.faB fd.bourselaw10_Step_4) ?_
              refine Any.p 7 rfl (by kernel_rfl) (by kernel_rfl) (by kernel_rfl) rfl (Ev.ldB sc.int) ?_
              refine Any.one 8 rfl (by kernel_rfl) ?_
              refine Seq.call rfl (fun w' hw => ref9Depth (s := side) (most := most) (by have := hsl side; omega) (RAt.up (RAt.own (enc := Rst.enc) (v := .slice A1 b.buys.length c1) (xs := b.buys) (hs := by omega)) hw) (RAt.up (RAt.own (enc := Rst.enc) (v := .slice A2 b.sells.length c2) (xs := b.sells) (hs := by omega)) hw)) (Gs := []) (F := _) (by exact List.Perm.refl _) ?_
              rintro _ _ ⟨A6, c6, rfl, rfl⟩
              try simp only [List.cons_append, List.nil_append, List.eraseIdx_cons_zero, List.eraseIdx_cons_succ, List.set_cons_zero, List.set_cons_succ]
              refine Seq.nil ⟨(by repeat (first | exact Part.refl _ | exact Part.nil _ | apply Part.here | apply Part.skip)), ?_⟩
              refine Any.p 9 rfl (by kernel_rfl) (by kernel_rfl) (by kernel_rfl) rfl Ev.assign ?_
              refine Any.done (by kernel_rfl) ?_
              refine JC.rs ?_
              refine Seq.p rfl Ev.move ?_
              refine Seq.p rfl Ev.move ?_
              refine Seq.callP rfl (fun w' hw => by have h := sameLevels (xs := depthF b side most) (ys := depthF b side most) (RAt.up (RAt.own (enc := Lvl.enc) (v := (.slice A5 (depthF b side most).length c5)) (xs := depthF b side most) (hs := by omega)) hw) (RAt.up (RAt.own (enc := Lvl.enc) (v := .slice A6 (depthF b side most).length c6) (xs := depthF b side most) (hs := by omega)) hw); rw [decide_eq_true rfl] at h; exact h) ?_
              refine Seq.p rfl Ev.assign ?_
              refine Seq.nil ?_
              refine JC.seq ?_
              refine JC.rs ?_
              refine Seq.p rfl Ev.assign ?_
              refine Seq.nil ?_
              refine JC.blk ?_
              refine JC.re (H' := [pairC px bk b (.slice A1 b.buys.length c1) (.slice A2 b.sells.length c2), bookC bk b.cap b.meet s.t1.adr s.t2.adr mb b.high b.seq, treeC nodeT s.t1, treeC nodeT s.t2, .mq mb (Value.int .u64) s.ids, levsC 1 s.B, levsC 2 s.S, rstL (.slice A1 b.buys.length c1) b.buys, rstL (.slice A2 b.sells.length c2) b.sells, .box b3 72 (stepL kind c x vb vs side most id), .own 66 3 (.slice A5 (depthF b side most).length c5) (depthF b side most).length ((depthF b side most).flatMap Lvl.enc)]) (fun w hu => hu.part (by repeat (first | exact Part.nil _ | refine Part.at (by repeat (first | exact At.z | apply At.s)) ?_))) ?_
              refine JC.loop (α := Nat) (I := fun i e1 H1 => ∃ xs, xs.length = (depthF b side most).length ∧ i ≤ (depthF b side most).length ∧ Has [12, 103, 104, 105, 106, 107, 108, 109, 110, 111, 112] [(12, .int .i64 (i : Int))] _ e1 ∧ H1 = [pairC px bk b (.slice A1 b.buys.length c1) (.slice A2 b.sells.length c2), bookC bk b.cap b.meet s.t1.adr s.t2.adr mb b.high b.seq, treeC nodeT s.t1, treeC nodeT s.t2, .mq mb (Value.int .u64) s.ids, levsC 1 s.B, levsC 2 s.S, rstL (.slice A1 b.buys.length c1) b.buys, rstL (.slice A2 b.sells.length c2) b.sells, .box b3 72 (stepL kind c x vb vs side most id), .own 66 3 (.slice A5 (depthF b side most).length c5) xs.length (xs.flatMap Lvl.enc)]) (μ := fun i => (depthF b side most).length + 1 - i) 0 ⟨depthF b side most, rfl, Nat.zero_le _, Has.mk Off.refl (allLook_cons (by repeat (first | exact Look.here | apply Look.there (hne := rfl) | exact Look.const | apply Look.mix rfl | exact Look.arg0 | apply Look.args | exact Look.func)) allLook_nil), rfl⟩ ?_
              rintro i _ _ ⟨xs, hxs, hi, ⟨u, rfl⟩, rfl⟩; dsimp only [setL]
              refine JC.seq ?_
              refine JC.rs ?_
              refine Seq.p rfl Ev.move ?_
              refine Seq.p rfl Ev.move ?_
              refine Seq.p rfl (Ev.lenH sl.sl_api_Level) ?_
              refine Seq.p rfl Ev.lt ?_
              refine Seq.nil ?_
              first | refine JC.c (ht := fun c106 => ?_) (hf := fun c106 => ?_) | refine JC.cb (ht := fun c106 => ?_) (hf := fun c106 => ?_)
              · -- then_t106
                have hi2 : i < (depthF b side most).length := by omega
                refine JC.skip ?_
                refine JC.seq ?_
                refine JC.blk ?_
                refine JC.reg ?_
                refine Seq.p rfl Ev.move ?_
                refine Seq.p rfl Ev.move ?_
                refine Seq.p rfl (Ev.buildN [_, _, _] pl.api_Level z.api_Level) ?_
                refine Seq.p rfl (Ev.iaN sl.sl_api_Level (i := i) (hr := RAt.own (enc := Lvl.enc) (v := (.slice A5 (depthF b side most).length c5)) (xs := xs) (hs := by omega)) (hi := by omega)) ?_
                refine Seq.stOwn (enc := Lvl.enc) (v := (.slice A5 (depthF b side most).length c5)) (xs := xs) (q := i) (⟨4721, 0, 0⟩ : Lvl) sz.api_Level (by decide) (h1 := lvlOne) (hq := by omega) (k := ?_)
                refine Seq.nil ?_
                refine JC.reg ?_
                refine Seq.p rfl Ev.move ?_
                refine Seq.p rfl (by first | exact Ev.inc | exact Ev.add) ?_
                refine Seq.p rfl Ev.assign ?_
                refine Seq.nil ?_
                exact ⟨i + 1, _, Part.refl _, ⟨xs.set i (⟨4721, 0, 0⟩ : Lvl), by rw [List.length_set]; exact hxs, by omega, Has.mk (by repeat (first | refine Off.upd ?_ rfl | exact Off.mix | refine Off.mix2 ?_ rfl | exact Off.refl)) (allLook_cons (by repeat (first | exact Look.here | apply Look.there (hne := rfl) | exact Look.const | apply Look.mix rfl | exact Look.arg0 | apply Look.args | exact Look.func)) allLook_nil), rfl⟩, by omega⟩
              · -- else_t106
                refine JC.exit ?_ -- 1
                refine JC.rs ?_
                refine Seq.p rfl Ev.move ?_
                refine Seq.p rfl Ev.assign ?_
                refine Seq.nil ?_
                refine JC.ret ?_
                show retQ _ _ _ _ _ _ _ _
                refine ret1 (hp := (show Part (pairL px s bk mb b A1 c1 A2 c2) _ from (by repeat (first | exact Part.nil _ | refine Part.at (by repeat (first | exact At.z | apply At.s)) ?_)))) (hpost := ?_)
                refine ⟨?_, hown⟩
                simp [*]
            · -- else_t80
              refine JC.rs ?_
              refine Seq.p rfl Ev.eq ?_
              refine Seq.p rfl Ev.assign ?_
              refine Seq.nil ?_
              first | refine JC.c (ht := fun c114 => ?_) (hf := fun c114 => ?_) | refine JC.cb (ht := fun c114 => ?_) (hf := fun c114 => ?_)
              · -- then_t114
                refine JC.cutE (fun e0 e' H' => ∃ b13, Has [13, 14, 15, 116, 117, 118, 119, 120, 121, 122, 123, 124, 125, 126] [(13, .pointer (some ⟨b13, 0, none⟩)), (14, .int .i64 (findF b id).2.1), (15, .bool (findF b id).2.2)] e0 e' ∧ Part [.box b13 42 (findF b id).1.enc, pairC px bk b (.slice A1 b.buys.length c1) (.slice A2 b.sells.length c2), bookC bk b.cap b.meet s.t1.adr s.t2.adr mb b.high b.seq, treeC nodeT s.t1, treeC nodeT s.t2, .mq mb (Value.int .u64) s.ids, levsC 1 s.B, levsC 2 s.S, rstL (.slice A1 b.buys.length c1) b.buys, rstL (.slice A2 b.sells.length c2) b.sells, .box b3 72 (stepL kind c x vb vs side most id)] H') ?_ ?_
                · -- region 24
                  refine JC.anyP (H0 := [pairC px bk b (.slice A1 b.buys.length c1) (.slice A2 b.sells.length c2), rstL (.slice A1 b.buys.length c1) b.buys, rstL (.slice A2 b.sells.length c2) b.sells, .box b3 72 (stepL kind c x vb vs side most id)]) mixed (by repeat (first | exact Part.nil _ | refine Part.at (by repeat (first | exact At.z | apply At.s)) ?_)) ?_
                  refine Any.p 0 rfl (by kernel_rfl) (by kernel_rfl) (by kernel_rfl) rfl Ev.move ?_
                  refine Any.p 1 rfl (by kernel_rfl) (by kernel_rfl) (by kernel_rfl) rfl Ev.nilP ?_
                  refine Any.p 2 rfl (by kernel_rfl) (by kernel_rfl) (by kernel_rfl) rfl (Ev.faB fd.bourselaw10_pair_0) ?_
                  refine Any.p 3 rfl (by kernel_rfl) (by kernel_rfl) (by kernel_rfl) rfl (Ev.ldB sc.p_treebook_Book) ?_
                  refine Any.p 4 rfl (by kernel_rfl) (by kernel_rfl) (by kernel_rfl) rfl (Ev.faB fd.bourselaw10_Step_5) ?_
                  refine Any.p 5 rfl (by kernel_rfl) (by kernel_rfl) (by kernel_rfl) rfl (Ev.ldB sc.uint64) ?_
                  refine Any.two 6 11 rfl rfl (by kernel_rfl) ?_ ?_
                  · -- first 6
                    refine Seq.call rfl (fun w' hw => tbFind (id := id) hT (Part.own (by repeat (first | exact Part.nil _ | refine Part.at (by repeat (first | exact At.z | apply At.s)) ?_)) hw.own)) (Gs := s.all bk mb b) (F := _) (Perm.at (by repeat (first | exact At.z | apply At.s)) (Perm.at (by repeat (first | exact At.z | apply At.s)) (Perm.at (by repeat (first | exact At.z | apply At.s)) (Perm.at (by repeat (first | exact At.z | apply At.s)) (Perm.at (by repeat (first | exact At.z | apply At.s)) (Perm.at (by repeat (first | exact At.z | apply At.s)) (Perm.none _))))))) ?_
                    rintro _ _ ⟨rfl, rfl⟩
                    try simp only [List.cons_append, List.nil_append, List.eraseIdx_cons_zero, List.eraseIdx_cons_succ, List.set_cons_zero, List.set_cons_succ]
                    refine Seq.nil ⟨(by repeat (first | exact Part.nil _ | refine Part.at (by repeat (first | exact At.z | apply At.s)) ?_)), ?_⟩
                    refine Any.p 7 rfl (by kernel_rfl) (by kernel_rfl) (by kernel_rfl) rfl Ev.move ?_
                    refine Any.p 8 rfl (by kernel_rfl) (by kernel_rfl) (by kernel_rfl) rfl Ev.extract ?_
                    refine Any.p 9 rfl (by kernel_rfl) (by kernel_rfl) (by kernel_rfl) rfl Ev.extract ?_
                    refine Any.p 10 rfl (by kernel_rfl) (by kernel_rfl) (by kernel_rfl) rfl Ev.extract ?_
                    refine Any.one 11 rfl (by kernel_rfl) ?_
                    refine Seq.alloc (cs := [_, _, _, _, _, _, _]) (hz := z.api_Resting) (k := ?_); intro b13
                    refine Seq.nil ⟨(by repeat (first | exact Part.nil _ | refine Part.at (by repeat (first | exact At.z | apply At.s)) ?_)), ?_⟩
                    refine Any.one 12 rfl (by kernel_rfl) ?_
                    refine Seq.storeN [_, _, _, _, _, _, _] sz.api_Resting (k := ?_)
                    refine Seq.nil ⟨(by repeat (first | exact Part.nil _ | refine Part.at (by repeat (first | exact At.z | apply At.s)) ?_)), ?_⟩
                    refine Any.p 13 rfl (by kernel_rfl) (by kernel_rfl) (by kernel_rfl) rfl Ev.assign ?_
                    refine Any.p 14 rfl (by kernel_rfl) (by kernel_rfl) (by kernel_rfl) rfl Ev.assign ?_
                    refine Any.done (by kernel_rfl) ?_
                    exact ⟨b13, Has.mk (by repeat (first | refine Off.upd ?_ rfl | exact Off.mix | refine Off.mix2 ?_ rfl | exact Off.refl)) (allLook_cons (by repeat (first | exact Look.here | apply Look.there (hne := rfl) | exact Look.const | apply Look.mix rfl | exact Look.arg0 | apply Look.args | exact Look.func)) (allLook_cons (by repeat (first | exact Look.here | apply Look.there (hne := rfl) | exact Look.const | apply Look.mix rfl | exact Look.arg0 | apply Look.args | exact Look.func)) (allLook_cons (by repeat (first | exact Look.here | apply Look.there (hne := rfl) | exact Look.const | apply Look.mix rfl | exact Look.arg0 | apply Look.args | exact Look.func)) allLook_nil))), (by repeat (first | exact Part.nil _ | refine Part.at (by repeat (first | exact At.z | apply At.s)) ?_))⟩
                  · -- first 11
                    refine Seq.alloc (cs := [_, _, _, _, _, _, _]) (hz := z.api_Resting) (k := ?_); intro b13
                    refine Seq.nil ⟨(by repeat (first | exact Part.nil _ | refine Part.at (by repeat (first | exact At.z | apply At.s)) ?_)), ?_⟩
                    refine Any.one 6 rfl (by kernel_rfl) ?_
                    refine Seq.call rfl (fun w' hw => tbFind (id := id) hT (Part.own (by repeat (first | exact Part.nil _ | refine Part.at (by repeat (first | exact At.z | apply At.s)) ?_)) hw.own)) (Gs := s.all bk mb b) (F := _) (Perm.at (by repeat (first | exact At.z | apply At.s)) (Perm.at (by repeat (first | exact At.z | apply At.s)) (Perm.at (by repeat (first | exact At.z | apply At.s)) (Perm.at (by repeat (first | exact At.z | apply At.s)) (Perm.at (by repeat (first | exact At.z | apply At.s)) (Perm.at (by repeat (first | exact At.z | apply At.s)) (Perm.none _))))))) ?_
                    rintro _ _ ⟨rfl, rfl⟩
                    try simp only [List.cons_append, List.nil_append, List.eraseIdx_cons_zero, List.eraseIdx_cons_succ, List.set_cons_zero, List.set_cons_succ]
                    refine Seq.nil ⟨(by repeat (first | exact Part.nil _ | refine Part.at (by repeat (first | exact At.z | apply At.s)) ?_)), ?_⟩
                    refine Any.p 7 rfl (by kernel_rfl) (by kernel_rfl) (by kernel_rfl) rfl Ev.move ?_
                    refine Any.p 8 rfl (by kernel_rfl) (by kernel_rfl) (by kernel_rfl) rfl Ev.extract ?_
                    refine Any.p 9 rfl (by kernel_rfl) (by kernel_rfl) (by kernel_rfl) rfl Ev.extract ?_
                    refine Any.p 10 rfl (by kernel_rfl) (by kernel_rfl) (by kernel_rfl) rfl Ev.extract ?_
                    refine Any.one 12 rfl (by kernel_rfl) ?_
                    refine Seq.storeN [_, _, _, _, _, _, _] sz.api_Resting (k := ?_)
                    refine Seq.nil ⟨(by repeat (first | exact Part.nil _ | refine Part.at (by repeat (first | exact At.z | apply At.s)) ?_)), ?_⟩
                    refine Any.p 13 rfl (by kernel_rfl) (by kernel_rfl) (by kernel_rfl) rfl Ev.assign ?_
                    refine Any.p 14 rfl (by kernel_rfl) (by kernel_rfl) (by kernel_rfl) rfl Ev.assign ?_
                    refine Any.done (by kernel_rfl) ?_
                    exact ⟨b13, Has.mk (by repeat (first | refine Off.upd ?_ rfl | exact Off.mix | refine Off.mix2 ?_ rfl | exact Off.refl)) (allLook_cons (by repeat (first | exact Look.here | apply Look.there (hne := rfl) | exact Look.const | apply Look.mix rfl | exact Look.arg0 | apply Look.args | exact Look.func)) (allLook_cons (by repeat (first | exact Look.here | apply Look.there (hne := rfl) | exact Look.const | apply Look.mix rfl | exact Look.arg0 | apply Look.args | exact Look.func)) (allLook_cons (by repeat (first | exact Look.here | apply Look.there (hne := rfl) | exact Look.const | apply Look.mix rfl | exact Look.arg0 | apply Look.args | exact Look.func)) allLook_nil))), (by repeat (first | exact Part.nil _ | refine Part.at (by repeat (first | exact At.z | apply At.s)) ?_))⟩
                · -- behind region 24
                  rintro _ _ ⟨b13, ⟨u13, rfl⟩, hp13⟩; dsimp only [setL]
                  refine JC.re (fun w h => h.part hp13) ?_
                  refine JC.as mixed ?_
                  refine Any.p 0 rfl (by kernel_rfl) (by kernel_rfl) (by kernel_rfl) rfl Ev.move ?_
                  refine Any.p 1 rfl (by kernel_rfl) (by kernel_rfl) (by kernel_rfl) rfl Ev.nilP ?_
                  refine Any.p 2 rfl (by kernel_rfl) (by kernel_rfl) (by kernel_rfl) rfl (Ev.faB fd.bourselaw10_pair_1) ?_
                  refine Any.p 3 rfl (by kernel_rfl) (by kernel_rfl) (by kernel_rfl) rfl (Ev.asR (v' := .agg (b.cells (.slice A1 b.buys.length c1) (.slice A2 b.sells.length c2)).toArray) (Ev.ldBPN (b.cells (.slice A1 b.buys.length c1) (.slice A2 b.sells.length c2)) ag.api_Book) rfl) ?_
                  refine Any.p 4 rfl (by kernel_rfl) (by kernel_rfl) (by kernel_rfl) rfl (Ev.faB fd.bourselaw10_Step_5) ?_
                  refine Any.p 5 rfl (by kernel_rfl) (by kernel_rfl) (by kernel_rfl) rfl (Ev.ldB sc.uint64) ?_
                  refine Any.call 6 rfl (by kernel_rfl) (by kernel_rfl) (by kernel_rfl) rfl (fun w hw => ref9Find (id := id) (RAt.up (RAt.own (enc := Rst.enc) (v := .slice A1 b.buys.length c1) (xs := b.buys) (hs := by omega)) hw) (RAt.up (RAt.own (enc := Rst.enc) (v := .slice A2 b.sells.length c2) (xs := b.sells) (hs := by omega)) hw)) ?_
                  refine Any.p 7 rfl (by kernel_rfl) (by kernel_rfl) (by kernel_rfl) rfl Ev.move ?_
                  refine Any.p 8 rfl (by kernel_rfl) (by kernel_rfl) (by kernel_rfl) rfl Ev.extract ?_
                  refine Any.p 9 rfl (by kernel_rfl) (by kernel_rfl) (by kernel_rfl) rfl Ev.extract ?_
                  refine Any.p 10 rfl (by kernel_rfl) (by kernel_rfl) (by kernel_rfl) rfl Ev.extract ?_
                  refine Any.one 11 rfl (by kernel_rfl) ?_
                  refine Seq.alloc (cs := [_, _, _, _, _, _, _]) (hz := z.api_Resting) (k := ?_); intro b16
                  refine Seq.nil ⟨(by repeat (first | exact Part.refl _ | exact Part.nil _ | apply Part.here | apply Part.skip)), ?_⟩
                  refine Any.one 12 rfl (by kernel_rfl) ?_
                  refine Seq.storeN [_, _, _, _, _, _, _] sz.api_Resting (k := ?_)
                  refine Seq.nil ⟨(by repeat (first | exact Part.refl _ | exact Part.nil _ | apply Part.here | apply Part.skip)), ?_⟩
                  refine Any.p 13 rfl (by kernel_rfl) (by kernel_rfl) (by kernel_rfl) rfl Ev.assign ?_
                  refine Any.p 14 rfl (by kernel_rfl) (by kernel_rfl) (by kernel_rfl) rfl Ev.assign ?_
                  refine Any.done (by kernel_rfl) ?_
                  refine JC.rs ?_
                  refine Seq.p rfl (Ev.asR (v' := .agg (findF b id).1.enc.toArray) (Ev.ldBA ag.api_Resting) rfl) ?_
                  refine Seq.p rfl (Ev.asR (v' := .agg (findF b id).1.enc.toArray) (Ev.ldBA ag.api_Resting) rfl) ?_
                  refine Seq.p rfl (Ev.as (v' := .bool true) (by rw [Rst.eqL_enc]; simp) (Ev.eqAg (xs := (findF b id).1.enc) (ys := (findF b id).1.enc) so.api_Resting ag.api_Resting gd.api_Resting)) ?_
                  refine Seq.p rfl Ev.move ?_
                  refine Seq.andG (D := [141, 142, 143, 144, 145]) (d := 141) (t := 145) (k := 4) (hn := fun h141 => ?_) (hx := ?_)
                  · repeat (first | refine Seq.gn rfl rfl rfl rfl ?_ | refine Seq.gu rfl rfl rfl ?_)
                    refine Seq.p rfl Ev.pickF ?_
                    exact Seq.nil ⟨rfl, (by repeat (first | with_reducible exact Off.refl | refine Off.upd ?_ rfl | exact Off.mix | refine Off.mix2 ?_ rfl)), Look.here⟩
                  apply Exists.intro
                  refine ⟨fun h141 => ?_, fun u145 => ?_⟩
                  · try simp only [decide_eq_true_eq, decide_eq_false_iff_not, Bool.and_eq_true, Bool.or_eq_true, Bool.not_eq_true', Bool.not_eq_false', Bool.or_eq_false_iff, Bool.and_eq_false_imp] at h141
                    refine Seq.gy rfl rfl rfl ?_
                    refine Seq.p rfl Ev.move ?_
                    refine Seq.gy rfl rfl rfl ?_
                    refine Seq.p rfl Ev.move ?_
                    refine Seq.gy rfl rfl rfl ?_
                    refine Seq.p rfl Ev.eq ?_
                    refine Seq.p rfl Ev.pickT ?_
                    exact Seq.nil ⟨rfl, (by repeat (first | with_reducible exact Off.refl | refine Off.upd ?_ rfl | exact Off.mix | refine Off.mix2 ?_ rfl)), Look.here⟩
                  refine Seq.p rfl Ev.move ?_
                  refine Seq.andG (D := [146, 147, 148, 149, 150]) (d := 146) (t := 150) (k := 4) (hn := fun h146 => ?_) (hx := ?_)
                  · repeat (first | refine Seq.gn rfl rfl rfl rfl ?_ | refine Seq.gu rfl rfl rfl ?_)
                    refine Seq.p rfl Ev.pickF ?_
                    exact Seq.nil ⟨rfl, (by repeat (first | with_reducible exact Off.refl | refine Off.upd ?_ rfl | exact Off.mix | refine Off.mix2 ?_ rfl)), Look.here⟩
                  apply Exists.intro
                  refine ⟨fun h146 => ?_, fun u150 => ?_⟩
                  · try simp only [decide_eq_true_eq, decide_eq_false_iff_not, Bool.and_eq_true, Bool.or_eq_true, Bool.not_eq_true', Bool.not_eq_false', Bool.or_eq_false_iff, Bool.and_eq_false_imp] at h146
                    refine Seq.gy rfl rfl rfl ?_
                    refine Seq.p rfl Ev.move ?_
                    refine Seq.gy rfl rfl rfl ?_
                    refine Seq.p rfl Ev.move ?_
                    refine Seq.gy rfl rfl rfl ?_
                    refine Seq.p rfl (Ev.eqB bl.bool) ?_
                    refine Seq.p rfl Ev.pickT ?_
                    exact Seq.nil ⟨rfl, (by repeat (first | with_reducible exact Off.refl | refine Off.upd ?_ rfl | exact Off.mix | refine Off.mix2 ?_ rfl)), Look.here⟩
                  refine Seq.p rfl Ev.assign ?_
                  refine Seq.nil ?_
                  refine JC.ret ?_
                  show retQ _ _ _ _ _ _ _ _
                  refine ret1 (hp := (show Part (pairL px s bk mb b A1 c1 A2 c2) _ from (by repeat (first | exact Part.nil _ | refine Part.at (by repeat (first | exact At.z | apply At.s)) ?_)))) (hpost := ?_)
                  refine ⟨?_, hown⟩
                  simp [*]
              · -- else_t114
                refine JC.rs ?_
                refine Seq.p rfl Ev.eq ?_
                refine Seq.p rfl Ev.assign ?_
                refine Seq.nil ?_
                first | refine JC.c (ht := fun c151 => ?_) (hf := fun c151 => ?_) | refine JC.cb (ht := fun c151 => ?_) (hf := fun c151 => ?_)
                · -- then_t151
                  refine JC.asP ([pairC px bk b (.slice A1 b.buys.length c1) (.slice A2 b.sells.length c2), rstL (.slice A1 b.buys.length c1) b.buys, rstL (.slice A2 b.sells.length c2) b.sells, .box b3 72 (stepL kind c x vb vs side most id)]) mixed (by repeat (first | exact Part.nil _ | refine Part.at (by repeat (first | exact At.z | apply At.s)) ?_)) ?_
                  refine Any.p 0 rfl (by kernel_rfl) (by kernel_rfl) (by kernel_rfl) rfl Ev.move ?_
                  refine Any.p 1 rfl (by kernel_rfl) (by kernel_rfl) (by kernel_rfl) rfl Ev.nilP ?_
                  refine Any.p 2 rfl (by kernel_rfl) (by kernel_rfl) (by kernel_rfl) rfl (Ev.faB fd.bourselaw10_pair_0) ?_
                  refine Any.p 3 rfl (by kernel_rfl) (by kernel_rfl) (by kernel_rfl) rfl (Ev.ldB sc.p_treebook_Book) ?_
                  refine Any.p 5 rfl (by kernel_rfl) (by kernel_rfl) (by kernel_rfl) rfl Ev.move ?_
                  refine Any.p 6 rfl (by kernel_rfl) (by kernel_rfl) (by kernel_rfl) rfl Ev.nilP ?_
                  refine Any.p 7 rfl (by kernel_rfl) (by kernel_rfl) (by kernel_rfl) rfl (Ev.faB fd.bourselaw10_pair_1) ?_
                  refine Any.p 8 rfl (by kernel_rfl) (by kernel_rfl) (by kernel_rfl) rfl (Ev.faB fd.api_Book_1) ?_
                  refine Any.p 9 rfl (by kernel_rfl) (by kernel_rfl) (by kernel_rfl) rfl (Ev.ldB sc.sl_api_Resting) ?_
                  refine Any.p 10 rfl (by kernel_rfl) (by kernel_rfl) (by kernel_rfl) rfl (Ev.lenSl sl.sl_api_Resting (hr := RAt.own (enc := Rst.enc) (v := .slice A1 b.buys.length c1) (xs := b.buys) (hs := by omega))) ?_
                  refine Any.p 11 rfl (by kernel_rfl) (by kernel_rfl) (by kernel_rfl) rfl Ev.move ?_
                  refine Any.p 12 rfl (by kernel_rfl) (by kernel_rfl) (by kernel_rfl) rfl Ev.nilP ?_
                  refine Any.p 13 rfl (by kernel_rfl) (by kernel_rfl) (by kernel_rfl) rfl (Ev.faB fd.bourselaw10_pair_1) ?_
                  refine Any.p 14 rfl (by kernel_rfl) (by kernel_rfl) (by kernel_rfl) rfl (Ev.faB fd.api_Book_2) ?_
                  refine Any.p 15 rfl (by kernel_rfl) (by kernel_rfl) (by kernel_rfl) rfl (Ev.ldB sc.sl_api_Resting) ?_
                  refine Any.p 16 rfl (by kernel_rfl) (by kernel_rfl) (by kernel_rfl) rfl (Ev.lenSl sl.sl_api_Resting (hr := RAt.own (enc := Rst.enc) (v := .slice A2 b.sells.length c2) (xs := b.sells) (hs := by omega))) ?_
                  refine Any.p 17 rfl (by kernel_rfl) (by kernel_rfl) (by kernel_rfl) rfl Ev.add ?_
                  refine Any.one 4 rfl (by kernel_rfl) ?_
                  refine Seq.call rfl (fun w' hw => tbLen hT (Part.own (by repeat (first | exact Part.nil _ | refine Part.at (by repeat (first | exact At.z | apply At.s)) ?_)) hw.own)) (Gs := s.all bk mb b) (F := _) (Perm.at (by repeat (first | exact At.z | apply At.s)) (Perm.at (by repeat (first | exact At.z | apply At.s)) (Perm.at (by repeat (first | exact At.z | apply At.s)) (Perm.at (by repeat (first | exact At.z | apply At.s)) (Perm.at (by repeat (first | exact At.z | apply At.s)) (Perm.at (by repeat (first | exact At.z | apply At.s)) (Perm.none _))))))) ?_
                  rintro _ _ ⟨rfl, rfl⟩
                  try simp only [List.cons_append, List.nil_append, List.eraseIdx_cons_zero, List.eraseIdx_cons_succ, List.set_cons_zero, List.set_cons_succ]
                  refine Seq.nil ⟨(by repeat (first | exact Part.nil _ | refine Part.at (by repeat (first | exact At.z | apply At.s)) ?_)), ?_⟩
                  refine Any.p 18 rfl (by kernel_rfl) (by kernel_rfl) (by kernel_rfl) rfl Ev.eq ?_
                  refine Any.p 19 rfl (by kernel_rfl) (by kernel_rfl) (by kernel_rfl) rfl Ev.assign ?_
                  refine Any.done (by kernel_rfl) ?_
                  refine JC.ret ?_
                  show retQ _ _ _ _ _ _ _ _
                  refine ret1 (hp := (show Part (pairL px s bk mb b A1 c1 A2 c2) _ from (by repeat (first | exact Part.nil _ | refine Part.at (by repeat (first | exact At.z | apply At.s)) ?_)))) (hpost := ?_)
                  refine ⟨?_, hown⟩
                  simp [*]
                · -- else_t151
                  refine JC.rs ?_
                  refine Seq.p rfl Ev.eq ?_
                  refine Seq.p rfl Ev.assign ?_
                  refine Seq.nil ?_
                  first | refine JC.c (ht := fun c172 => ?_) (hf := fun c172 => ?_) | refine JC.cb (ht := fun c172 => ?_) (hf := fun c172 => ?_)
                  · -- then_t172
                    refine JC.rs ?_
                    refine Seq.p rfl Ev.move ?_
                    refine Seq.p rfl Ev.nilP ?_
                    refine Seq.p rfl (Ev.faB fd.bourselaw10_pair_0) ?_
                    refine Seq.p rfl (Ev.ldB sc.p_treebook_Book) ?_
                    refine Seq.call rfl (fun w' hw => tbLevels (Part.own (by repeat (first | exact Part.nil _ | refine Part.at (by repeat (first | exact At.z | apply At.s)) ?_)) hw.own)) (Gs := s.all bk mb b) (F := _) (Perm.at (by repeat (first | exact At.z | apply At.s)) (Perm.at (by repeat (first | exact At.z | apply At.s)) (Perm.at (by repeat (first | exact At.z | apply At.s)) (Perm.at (by repeat (first | exact At.z | apply At.s)) (Perm.at (by repeat (first | exact At.z | apply At.s)) (Perm.at (by repeat (first | exact At.z | apply At.s)) (Perm.none _))))))) ?_
                    rintro _ _ ⟨rfl, rfl⟩
                    try simp only [List.cons_append, List.nil_append, List.eraseIdx_cons_zero, List.eraseIdx_cons_succ, List.set_cons_zero, List.set_cons_succ]
                    refine Seq.p rfl Ev.move ?_
                    refine Seq.p rfl Ev.extract ?_
                    refine Seq.p rfl Ev.extract ?_
                    refine Seq.p rfl Ev.assign ?_
                    refine Seq.p rfl Ev.assign ?_
                    refine Seq.nil ?_
                    refine JC.rs ?_
                    refine Seq.p rfl Ev.move ?_
                    refine Seq.p rfl Ev.nilP ?_
                    refine Seq.p rfl (Ev.faB fd.bourselaw10_pair_0) ?_
                    refine Seq.p rfl (Ev.ldB sc.p_treebook_Book) ?_
                    refine Seq.call rfl (fun w' hw => tbHeights (Part.own (by repeat (first | exact Part.nil _ | refine Part.at (by repeat (first | exact At.z | apply At.s)) ?_)) hw.own)) (Gs := s.all bk mb b) (F := _) (Perm.at (by repeat (first | exact At.z | apply At.s)) (Perm.at (by repeat (first | exact At.z | apply At.s)) (Perm.at (by repeat (first | exact At.z | apply At.s)) (Perm.at (by repeat (first | exact At.z | apply At.s)) (Perm.at (by repeat (first | exact At.z | apply At.s)) (Perm.at (by repeat (first | exact At.z | apply At.s)) (Perm.none _))))))) ?_
                    rintro _ _ ⟨rfl, rfl⟩
                    try simp only [List.cons_append, List.nil_append, List.eraseIdx_cons_zero, List.eraseIdx_cons_succ, List.set_cons_zero, List.set_cons_succ]
                    refine Seq.p rfl Ev.move ?_
                    refine Seq.p rfl Ev.extract ?_
                    refine Seq.p rfl Ev.extract ?_
                    refine Seq.p rfl Ev.assign ?_
                    refine Seq.p rfl Ev.assign ?_
                    refine Seq.nil ?_
                    refine JC.rs ?_
                    refine Seq.p rfl Ev.move ?_
                    refine Seq.p rfl Ev.move ?_
                    refine Seq.p rfl Ev.nilP ?_
                    refine Seq.p rfl (Ev.faB fd.bourselaw10_pair_1) ?_
                    refine Seq.p rfl (Ev.faB fd.api_Book_1) ?_
                    refine Seq.p rfl (Ev.ldB sc.sl_api_Resting) ?_
                    refine Seq.callP rfl (fun w' hw => by have h := lawPrices (v := .slice A1 b.buys.length c1) (RAt.up (RAt.own (enc := Rst.enc) (v := .slice A1 b.buys.length c1) (xs := b.buys) (hs := by omega)) hw); rw [hp1] at h; exact h) ?_
                    refine Seq.p rfl Ev.eq ?_
                    refine Seq.p rfl Ev.move ?_
                    refine Seq.andG (D := [198, 199, 200, 201, 202, 203, 204, 205, 206, 207]) (d := 198) (t := 207) (k := 9) (hn := fun h198 => ?_) (hx := ?_)
                    · repeat (first | refine Seq.gn rfl rfl rfl rfl ?_ | refine Seq.gu rfl rfl rfl ?_)
                      refine Seq.p rfl Ev.pickF ?_
                      exact Seq.nil ⟨rfl, (by repeat (first | with_reducible exact Off.refl | refine Off.upd ?_ rfl | exact Off.mix | refine Off.mix2 ?_ rfl)), Look.here⟩
                    apply Exists.intro
                    refine ⟨fun h198 => ?_, fun u207 => ?_⟩
                    · try simp only [decide_eq_true_eq, decide_eq_false_iff_not, Bool.and_eq_true, Bool.or_eq_true, Bool.not_eq_true', Bool.not_eq_false', Bool.or_eq_false_iff, Bool.and_eq_false_imp] at h198
                      refine Seq.gy rfl rfl rfl ?_
                      refine Seq.p rfl Ev.move ?_
                      refine Seq.gy rfl rfl rfl ?_
                      refine Seq.p rfl Ev.move ?_
                      refine Seq.gy rfl rfl rfl ?_
                      refine Seq.p rfl Ev.nilP ?_
                      refine Seq.gy rfl rfl rfl ?_
                      refine Seq.p rfl (Ev.faB fd.bourselaw10_pair_1) ?_
                      refine Seq.gy rfl rfl rfl ?_
                      refine Seq.p rfl (Ev.faB fd.api_Book_2) ?_
                      refine Seq.gy rfl rfl rfl ?_
                      refine Seq.p rfl (Ev.ldB sc.sl_api_Resting) ?_
                      refine Seq.gy rfl rfl rfl ?_
                      refine Seq.callP rfl (fun w' hw => by have h := lawPrices (v := .slice A2 b.sells.length c2) (RAt.up (RAt.own (enc := Rst.enc) (v := .slice A2 b.sells.length c2) (xs := b.sells) (hs := by omega)) hw); rw [hp2] at h; exact h) ?_
                      refine Seq.gy rfl rfl rfl ?_
                      refine Seq.p rfl Ev.eq ?_
                      refine Seq.p rfl Ev.pickT ?_
                      exact Seq.nil ⟨rfl, (by repeat (first | with_reducible exact Off.refl | refine Off.upd ?_ rfl | exact Off.mix | refine Off.mix2 ?_ rfl)), Look.here⟩
                    refine Seq.p rfl Ev.move ?_
                    refine Seq.andG (D := [208, 209, 210, 211, 212]) (d := 208) (t := 212) (k := 4) (hn := fun h208 => ?_) (hx := ?_)
                    · repeat (first | refine Seq.gn rfl rfl rfl rfl ?_ | refine Seq.gu rfl rfl rfl ?_)
                      refine Seq.p rfl Ev.pickF ?_
                      exact Seq.nil ⟨rfl, (by repeat (first | with_reducible exact Off.refl | refine Off.upd ?_ rfl | exact Off.mix | refine Off.mix2 ?_ rfl)), Look.here⟩
                    apply Exists.intro
                    refine ⟨fun h208 => ?_, fun u212 => ?_⟩
                    · try simp only [decide_eq_true_eq, decide_eq_false_iff_not, Bool.and_eq_true, Bool.or_eq_true, Bool.not_eq_true', Bool.not_eq_false', Bool.or_eq_false_iff, Bool.and_eq_false_imp] at h208
                      refine Seq.gy rfl rfl rfl ?_
                      refine Seq.p rfl Ev.move ?_
                      refine Seq.gy rfl rfl rfl ?_
                      refine Seq.p rfl Ev.move ?_
                      refine Seq.gy rfl rfl rfl ?_
                      refine Seq.callP rfl (fun w' hw => lawFlat hT.one.ok hsz1) ?_
                      refine Seq.p rfl Ev.pickT ?_
                      exact Seq.nil ⟨rfl, (by repeat (first | with_reducible exact Off.refl | refine Off.upd ?_ rfl | exact Off.mix | refine Off.mix2 ?_ rfl)), Look.here⟩
                    refine Seq.p rfl Ev.move ?_
                    refine Seq.andG (D := [213, 214, 215, 216, 217]) (d := 213) (t := 217) (k := 4) (hn := fun h213 => ?_) (hx := ?_)
                    · repeat (first | refine Seq.gn rfl rfl rfl rfl ?_ | refine Seq.gu rfl rfl rfl ?_)
                      refine Seq.p rfl Ev.pickF ?_
                      exact Seq.nil ⟨rfl, (by repeat (first | with_reducible exact Off.refl | refine Off.upd ?_ rfl | exact Off.mix | refine Off.mix2 ?_ rfl)), Look.here⟩
                    apply Exists.intro
                    refine ⟨fun h213 => ?_, fun u217 => ?_⟩
                    · try simp only [decide_eq_true_eq, decide_eq_false_iff_not, Bool.and_eq_true, Bool.or_eq_true, Bool.not_eq_true', Bool.not_eq_false', Bool.or_eq_false_iff, Bool.and_eq_false_imp] at h213
                      refine Seq.gy rfl rfl rfl ?_
                      refine Seq.p rfl Ev.move ?_
                      refine Seq.gy rfl rfl rfl ?_
                      refine Seq.p rfl Ev.move ?_
                      refine Seq.gy rfl rfl rfl ?_
                      refine Seq.callP rfl (fun w' hw => lawFlat hT.two.ok hsz2) ?_
                      refine Seq.p rfl Ev.pickT ?_
                      exact Seq.nil ⟨rfl, (by repeat (first | with_reducible exact Off.refl | refine Off.upd ?_ rfl | exact Off.mix | refine Off.mix2 ?_ rfl)), Look.here⟩
                    refine Seq.p rfl Ev.assign ?_
                    refine Seq.nil ?_
                    refine JC.ret ?_
                    show retQ _ _ _ _ _ _ _ _
                    refine ret1 (hp := (show Part (pairL px s bk mb b A1 c1 A2 c2) _ from (by repeat (first | exact Part.nil _ | refine Part.at (by repeat (first | exact At.z | apply At.s)) ?_)))) (hpost := ?_)
                    refine ⟨?_, hown⟩
                    simp [*]
                  · -- else_t172
                    refine JC.skip ?_
                    refine JC.rs ?_
                    refine Seq.p rfl Ev.assign ?_
                    refine Seq.nil ?_
                    refine JC.ret ?_
                    show retQ _ _ _ _ _ _ _ _
                    refine ret1 (hp := (show Part (pairL px s bk mb b A1 c1 A2 c2) _ from (by repeat (first | exact Part.nil _ | refine Part.at (by repeat (first | exact At.z | apply At.s)) ?_)))) (hpost := ?_)
                    refine ⟨?_, hown⟩
                    simp [*]
end Go.Rx
/- The laws of new books, and of commands one behind the other. (printed by gen_oz9.py) -/
namespace Go.Rx
open Go Go.RowKit
set_option linter.unusedVariables false
set_option linter.unusedSimpArgs false
theorem Cmd.fits_default : (default : Cmd).fits := ⟨by decide, by decide, by decide, by decide, by decide⟩
theorem Bk.fits_empty : (Bk.empty 0 0).fits := ⟨(by intro r hr; cases hr), (by intro r hr; cases hr), (by show 0 < _; decide), (by show 0 < _; decide)⟩
abbrev stepZ (kind side : Int) : List Value := stepL kind default (Bk.empty 0 0) (.slice none 0 0) (.slice none 0 0) side 0 0
theorem lawStepZ {w : World} {px bk mb c1 c2 : Nat} {s : TS} {b : Bk} {A1 A2 : Option Addr} {kind side : Int} (hk0 : ¬ kind = 0) (hk : ¬ (kind = 2 ∨ kind = 3)) (hT : TOk s b) (hb : BOk b) (hO : Own w (pairL px s bk mb b A1 c1 A2 c2)) :
    Spec Go.Proofs.Try.prog 25 #[.pointer (some ⟨px, 0, none⟩), .agg (stepZ kind side).toArray] w (pairL px s bk mb b A1 c1 A2 c2) (fun u H' => u = .bool true ∧ PairIs px bk H') :=
  lawStep (fun h => absurd h hk0) (fun h => absurd h hk) hT hb Cmd.fits_default Bk.fits_empty (by show 0 * 56 + 56 ≤ _; decide) (by show 0 * 56 + 56 ≤ _; decide) (RSl.empty _ _ _ _) (RSl.empty _ _ _ _) hO
set_option maxHeartbeats 4000000 in
set_option maxRecDepth 100000 in
theorem lawNewsA {w : World} {cap meet : Int} (hc : configF cap meet = true) : Spec Go.Proofs.Try.prog 6 #[.agg #[.int .i64 cap, .int .i64 meet]] w [] (fun u _ => u = .bool true) := by
  refine Spec.enter (fn := Go.Proofs.Try.f6) (n := 37) [.agg #[.int .i64 cap, .int .i64 meet]] Go.Proofs.Try.func6 (by kernel_rfl) rfl Go.Proofs.Try.ntmps6 Go.Proofs.Try.results6 rfl (Own.nil _) ?_
  refine JC.rs ?_
  refine Seq.box (cs := [_, _]) (k := ?_); intro b1
  refine Seq.p rfl Ev.assign ?_
  refine Seq.nil ?_
  refine JC.rs ?_
  refine Seq.p rfl (Ev.asR (v' := .agg #[.int .i64 cap, .int .i64 meet]) (Ev.ldBA ag.api_Config) rfl) ?_
  refine Seq.call rfl (fun w' hw => lawMadeA hc) (Gs := []) (F := _) (by exact List.Perm.refl _) ?_
  rintro _ _ ⟨px, bk, rfl, s, b, mb, A1, A2, c1, c2, hT, hb, rfl⟩
  try simp only [List.cons_append, List.nil_append, List.eraseIdx_cons_zero, List.eraseIdx_cons_succ, List.set_cons_zero, List.set_cons_succ]
  refine Seq.p rfl Ev.move ?_
  refine Seq.p rfl Ev.extract ?_
  refine Seq.p rfl Ev.extract ?_
  refine Seq.p rfl Ev.assign ?_
  refine Seq.p rfl Ev.assign ?_
  refine Seq.nil ?_
  refine JC.seq ?_
  refine JC.rs ?_
  refine Seq.p rfl Ev.move ?_
  refine Seq.p rfl Ev.not ?_
  refine Seq.p rfl Ev.move ?_
  refine Seq.orG (D := [12, 13, 14, 15, 16, 17, 18]) (d := 12) (t := 18) (k := 6) (hn := fun h12 => ?_) (hx := ?_)
  · repeat (first | refine Seq.gn rfl rfl rfl rfl ?_ | refine Seq.gu rfl rfl rfl ?_)
    refine Seq.p rfl Ev.pickT ?_
    exact Seq.nil ⟨rfl, (by repeat (first | with_reducible exact Off.refl | refine Off.upd ?_ rfl | exact Off.mix | refine Off.mix2 ?_ rfl)), Look.here⟩
  apply Exists.intro
  refine ⟨fun h12 => ?_, fun u18 => ?_⟩
  · try simp only [decide_eq_true_eq, decide_eq_false_iff_not, Bool.and_eq_true, Bool.or_eq_true, Bool.not_eq_true', Bool.not_eq_false', Bool.or_eq_false_iff, Bool.and_eq_false_imp] at h12
    refine Seq.gy rfl rfl rfl ?_
    refine Seq.p rfl Ev.move ?_
    refine Seq.gy rfl rfl rfl ?_
    refine Seq.p rfl Ev.nilP ?_
    refine Seq.gy rfl rfl rfl ?_
    refine Seq.p rfl (Ev.faB fd.bourselaw10_pair_0 (bk := px) (o := 0)) ?_
    refine Seq.gy rfl rfl rfl ?_
    refine Seq.p rfl (Ev.ldB sc.p_treebook_Book) ?_
    refine Seq.gy rfl rfl rfl ?_
    refine Seq.p rfl (Ev.eqNilP und.p_treebook_Book) ?_
    refine Seq.p rfl Ev.pickF ?_
    exact Seq.nil ⟨rfl, (by repeat (first | with_reducible exact Off.refl | refine Off.upd ?_ rfl | exact Off.mix | refine Off.mix2 ?_ rfl)), Look.here⟩
  refine Seq.nil ?_
  first | refine JC.c (ht := fun c18 => ?_) (hf := fun c18 => ?_) | refine JC.cb (ht := fun c18 => ?_) (hf := fun c18 => ?_)
  · -- then_t18
    exact absurd c18 (by simp [*])
  · -- else_t18
    refine JC.skip ?_
    refine JC.rs ?_
    refine Seq.p rfl Ev.move ?_
    refine Seq.call rfl (fun w' hw => lawTold hT hb (Part.own (by repeat (first | exact Part.nil _ | refine Part.at (by repeat (first | exact At.z | apply At.s)) ?_)) hw.own)) (Gs := pairL px s bk mb b A1 c1 A2 c2) (F := _) (Perm.at (by repeat (first | exact At.z | apply At.s)) (Perm.at (by repeat (first | exact At.z | apply At.s)) (Perm.at (by repeat (first | exact At.z | apply At.s)) (Perm.at (by repeat (first | exact At.z | apply At.s)) (Perm.at (by repeat (first | exact At.z | apply At.s)) (Perm.at (by repeat (first | exact At.z | apply At.s)) (Perm.at (by repeat (first | exact At.z | apply At.s)) (Perm.at (by repeat (first | exact At.z | apply At.s)) (Perm.at (by repeat (first | exact At.z | apply At.s)) (Perm.none _)))))))))) ?_
    rintro _ _ ⟨rfl, rfl⟩
    try simp only [List.cons_append, List.nil_append, List.eraseIdx_cons_zero, List.eraseIdx_cons_succ, List.set_cons_zero, List.set_cons_succ]
    refine Seq.p rfl Ev.move ?_
    refine Seq.split (d := 22) (k := ?_)
    rintro (_|_) h22
    · try simp only [decide_eq_true_eq, decide_eq_false_iff_not] at h22
      first | cases h22 | exact absurd h22 (by simp)
    · try simp only [decide_eq_true_eq, decide_eq_false_iff_not] at h22
      refine Seq.gy rfl rfl rfl ?_
      refine Seq.p rfl Ev.move ?_
      refine Seq.gy rfl rfl rfl ?_
      refine Seq.p rfl (Ev.asR (v' := .agg (stepZ 7 0).toArray) (Ev.buildN [_, _, _, _, _, _, _, _, _, _, _, _, _, _, _, _, _, _, _] pl.bourselaw10_Step z.bourselaw10_Step) rfl) ?_
      refine Seq.gy rfl rfl rfl ?_
      refine Seq.call rfl (fun w' hw => lawStepZ (kind := 7) (side := 0) (by decide) (by decide) hT hb (Part.own (by repeat (first | exact Part.nil _ | refine Part.at (by repeat (first | exact At.z | apply At.s)) ?_)) hw.own)) (Gs := pairL px s bk mb b A1 c1 A2 c2) (F := _) (Perm.at (by repeat (first | exact At.z | apply At.s)) (Perm.at (by repeat (first | exact At.z | apply At.s)) (Perm.at (by repeat (first | exact At.z | apply At.s)) (Perm.at (by repeat (first | exact At.z | apply At.s)) (Perm.at (by repeat (first | exact At.z | apply At.s)) (Perm.at (by repeat (first | exact At.z | apply At.s)) (Perm.at (by repeat (first | exact At.z | apply At.s)) (Perm.at (by repeat (first | exact At.z | apply At.s)) (Perm.at (by repeat (first | exact At.z | apply At.s)) (Perm.none _)))))))))) ?_
      rintro _ _ ⟨rfl, s3, b3, mb3, A13, A23, c13, c23, hT3, hb3, rfl⟩
      try simp only [List.cons_append, List.nil_append, List.eraseIdx_cons_zero, List.eraseIdx_cons_succ, List.set_cons_zero, List.set_cons_succ]
      refine Seq.p rfl Ev.pickT ?_
      refine Seq.p rfl Ev.move ?_
      refine Seq.split (d := 27) (k := ?_)
      rintro (_|_) h27
      · try simp only [decide_eq_true_eq, decide_eq_false_iff_not] at h27
        first | cases h27 | exact absurd h27 (by simp)
      · try simp only [decide_eq_true_eq, decide_eq_false_iff_not] at h27
        refine Seq.gy rfl rfl rfl ?_
        refine Seq.p rfl Ev.move ?_
        refine Seq.gy rfl rfl rfl ?_
        refine Seq.p rfl (Ev.asR (v' := .agg (stepZ 8 0).toArray) (Ev.buildN [_, _, _, _, _, _, _, _, _, _, _, _, _, _, _, _, _, _, _] pl.bourselaw10_Step z.bourselaw10_Step) rfl) ?_
        refine Seq.gy rfl rfl rfl ?_
        refine Seq.call rfl (fun w' hw => lawStepZ (kind := 8) (side := 0) (by decide) (by decide) hT3 hb3 (Part.own (by repeat (first | exact Part.nil _ | refine Part.at (by repeat (first | exact At.z | apply At.s)) ?_)) hw.own)) (Gs := pairL px s3 bk mb3 b3 A13 c13 A23 c23) (F := _) (Perm.at (by repeat (first | exact At.z | apply At.s)) (Perm.at (by repeat (first | exact At.z | apply At.s)) (Perm.at (by repeat (first | exact At.z | apply At.s)) (Perm.at (by repeat (first | exact At.z | apply At.s)) (Perm.at (by repeat (first | exact At.z | apply At.s)) (Perm.at (by repeat (first | exact At.z | apply At.s)) (Perm.at (by repeat (first | exact At.z | apply At.s)) (Perm.at (by repeat (first | exact At.z | apply At.s)) (Perm.at (by repeat (first | exact At.z | apply At.s)) (Perm.none _)))))))))) ?_
        rintro _ _ ⟨rfl, s4, b4, mb4, A14, A24, c14, c24, hT4, hb4, rfl⟩
        try simp only [List.cons_append, List.nil_append, List.eraseIdx_cons_zero, List.eraseIdx_cons_succ, List.set_cons_zero, List.set_cons_succ]
        refine Seq.p rfl Ev.pickT ?_
        refine Seq.p rfl Ev.move ?_
        refine Seq.split (d := 32) (k := ?_)
        rintro (_|_) h32
        · try simp only [decide_eq_true_eq, decide_eq_false_iff_not] at h32
          first | cases h32 | exact absurd h32 (by simp)
        · try simp only [decide_eq_true_eq, decide_eq_false_iff_not] at h32
          refine Seq.gy rfl rfl rfl ?_
          refine Seq.p rfl Ev.move ?_
          refine Seq.gy rfl rfl rfl ?_
          refine Seq.p rfl (Ev.asR (v' := .agg (stepZ 4 1).toArray) (Ev.buildN [_, _, _, _, _, _, _, _, _, _, _, _, _, _, _, _, _, _, _] pl.bourselaw10_Step z.bourselaw10_Step) rfl) ?_
          refine Seq.gy rfl rfl rfl ?_
          refine Seq.call rfl (fun w' hw => lawStepZ (kind := 4) (side := 1) (by decide) (by decide) hT4 hb4 (Part.own (by repeat (first | exact Part.nil _ | refine Part.at (by repeat (first | exact At.z | apply At.s)) ?_)) hw.own)) (Gs := pairL px s4 bk mb4 b4 A14 c14 A24 c24) (F := _) (Perm.at (by repeat (first | exact At.z | apply At.s)) (Perm.at (by repeat (first | exact At.z | apply At.s)) (Perm.at (by repeat (first | exact At.z | apply At.s)) (Perm.at (by repeat (first | exact At.z | apply At.s)) (Perm.at (by repeat (first | exact At.z | apply At.s)) (Perm.at (by repeat (first | exact At.z | apply At.s)) (Perm.at (by repeat (first | exact At.z | apply At.s)) (Perm.at (by repeat (first | exact At.z | apply At.s)) (Perm.at (by repeat (first | exact At.z | apply At.s)) (Perm.none _)))))))))) ?_
          rintro _ _ ⟨rfl, s5, b5, mb5, A15, A25, c15, c25, hT5, hb5, rfl⟩
          try simp only [List.cons_append, List.nil_append, List.eraseIdx_cons_zero, List.eraseIdx_cons_succ, List.set_cons_zero, List.set_cons_succ]
          refine Seq.p rfl Ev.pickT ?_
          refine Seq.p rfl Ev.assign ?_
          refine Seq.nil ?_
          refine JC.ret ?_
          show retQ _ _ _ _ _ _ _ _
          refine ret1 (hp := Part.nil _) (hpost := ?_)
          simp [*]
set_option maxHeartbeats 4000000 in
set_option maxRecDepth 100000 in
theorem lawNewsB {w : World} {cap meet : Int} (hc : ¬ configF cap meet = true) : Spec Go.Proofs.Try.prog 6 #[.agg #[.int .i64 cap, .int .i64 meet]] w [] (fun u _ => u = .bool true) := by
  refine Spec.enter (fn := Go.Proofs.Try.f6) (n := 37) [.agg #[.int .i64 cap, .int .i64 meet]] Go.Proofs.Try.func6 (by kernel_rfl) rfl Go.Proofs.Try.ntmps6 Go.Proofs.Try.results6 rfl (Own.nil _) ?_
  refine JC.rs ?_
  refine Seq.box (cs := [_, _]) (k := ?_); intro b1
  refine Seq.p rfl Ev.assign ?_
  refine Seq.nil ?_
  refine JC.rs ?_
  refine Seq.p rfl (Ev.asR (v' := .agg #[.int .i64 cap, .int .i64 meet]) (Ev.ldBA ag.api_Config) rfl) ?_
  refine Seq.call rfl (fun w' hw => lawMadeB hc) (Gs := []) (F := _) (by exact List.Perm.refl _) ?_
  rintro _ _ ⟨px, rfl, rfl⟩
  try simp only [List.cons_append, List.nil_append, List.eraseIdx_cons_zero, List.eraseIdx_cons_succ, List.set_cons_zero, List.set_cons_succ]
  refine Seq.p rfl Ev.move ?_
  refine Seq.p rfl Ev.extract ?_
  refine Seq.p rfl Ev.extract ?_
  refine Seq.p rfl Ev.assign ?_
  refine Seq.p rfl Ev.assign ?_
  refine Seq.nil ?_
  refine JC.seq ?_
  refine JC.rs ?_
  refine Seq.p rfl Ev.move ?_
  refine Seq.p rfl Ev.not ?_
  refine Seq.p rfl Ev.move ?_
  refine Seq.orG (D := [12, 13, 14, 15, 16, 17, 18]) (d := 12) (t := 18) (k := 6) (hn := fun h12 => ?_) (hx := ?_)
  · repeat (first | refine Seq.gn rfl rfl rfl rfl ?_ | refine Seq.gu rfl rfl rfl ?_)
    refine Seq.p rfl Ev.pickT ?_
    exact Seq.nil ⟨rfl, (by repeat (first | with_reducible exact Off.refl | refine Off.upd ?_ rfl | exact Off.mix | refine Off.mix2 ?_ rfl)), Look.here⟩
  apply Exists.intro
  refine ⟨fun h12 => ?_, fun u18 => ?_⟩
  · try simp only [decide_eq_true_eq, decide_eq_false_iff_not, Bool.and_eq_true, Bool.or_eq_true, Bool.not_eq_true', Bool.not_eq_false', Bool.or_eq_false_iff, Bool.and_eq_false_imp] at h12
    refine Seq.gy rfl rfl rfl ?_
    refine Seq.p rfl Ev.move ?_
    refine Seq.gy rfl rfl rfl ?_
    refine Seq.p rfl Ev.nilP ?_
    refine Seq.gy rfl rfl rfl ?_
    refine Seq.p rfl (Ev.faB fd.bourselaw10_pair_0 (bk := px) (o := 0)) ?_
    refine Seq.gy rfl rfl rfl ?_
    refine Seq.p rfl (Ev.ldB sc.p_treebook_Book) ?_
    refine Seq.gy rfl rfl rfl ?_
    refine Seq.p rfl (Ev.eqNilP und.p_treebook_Book) ?_
    refine Seq.p rfl Ev.pickF ?_
    exact Seq.nil ⟨rfl, (by repeat (first | with_reducible exact Off.refl | refine Off.upd ?_ rfl | exact Off.mix | refine Off.mix2 ?_ rfl)), Look.here⟩
  refine Seq.nil ?_
  first | refine JC.c (ht := fun c18 => ?_) (hf := fun c18 => ?_) | refine JC.cb (ht := fun c18 => ?_) (hf := fun c18 => ?_)
  · -- then_t18
    refine JC.rs ?_
    refine Seq.p rfl Ev.move ?_
    refine Seq.p rfl Ev.assign ?_
    refine Seq.nil ?_
    refine JC.ret ?_
    show retQ _ _ _ _ _ _ _ _
    refine ret1 (hp := Part.nil _) (hpost := ?_)
    simp [*]
  · -- else_t18
    exact absurd c18 (by simp [*])
theorem lawNews {w : World} {cap meet : Int} : Spec Go.Proofs.Try.prog 6 #[.agg #[.int .i64 cap, .int .i64 meet]] w [] (fun u _ => u = .bool true) := by
  by_cases hc : configF cap meet = true
  · exact lawNewsA hc
  · exact lawNewsB hc
end Go.Rx
