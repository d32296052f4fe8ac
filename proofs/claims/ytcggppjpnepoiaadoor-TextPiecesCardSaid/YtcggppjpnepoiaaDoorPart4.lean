/- Parts of the proof. -/
import Derived.Test.YtcggppjpnepoiaaDoorPart3
set_option linter.unusedVariables false
set_option linter.unusedSimpArgs false
/- All lines that a reader tells of bytes in pieces. -/
namespace Go.Rx
open Go Go.RowKit Go.Lib Go.Proofs.YtcggppjpnepoiaaDoor
set_option linter.unusedVariables false
set_option linter.unusedSimpArgs false
theorem out_next {h x : List Int} (hn : ¬ (readF h).why = 20) : outF (h ++ x) = ((if (nextF h).ok = true then [(encF (nextF h).kind (nextF h).tags).2] else []) ++ (outF ((nextF h).held ++ x)).1, (outF ((nextF h).held ++ x)).2) := by
  rw [out_app h x, outF_step hn, out_app (nextF h).held x, List.append_assoc]
def Told (b : List Int) (f : Nat) (L : List (List Int)) (h : List Int) : Prop := ∀ x, outF (b.take f ++ x) = (L ++ (outF (h ++ x)).1, (outF (h ++ x)).2)
theorem Told.zero (b : List Int) : Told b 0 [] [] := fun x => by simp
theorem Told.feed {b : List Int} {f t : Nat} {L : List (List Int)} {h : List Int} (hT : Told b f L h) (h1 : f ≤ t) : Told b t L (h ++ (b.drop f).take (t - f)) := fun x => by
  have e : b.take t = b.take f ++ (b.drop f).take (t - f) := by rw [← List.take_add]; congr 1; omega
  rw [e, List.append_assoc, List.append_assoc]
  exact hT _
theorem Told.next {b : List Int} {f : Nat} {L : List (List Int)} {h : List Int} (hT : Told b f L h) (hn : ¬ (readF h).why = 20) : Told b f (L ++ if (nextF h).ok = true then [(encF (nextF h).kind (nextF h).tags).2] else []) (nextF h).held := fun x => by
  rw [hT x, out_next hn, List.append_assoc]
theorem Told.all {b : List Int} {L : List (List Int)} {h : List Int} (hT : Told b b.length L h) (hs : (readF h).why = 20) : (outF b).1 = L := by
  have h1 := hT []
  rw [List.append_nil, List.append_nil, List.take_length, outF_short hs, List.append_nil] at h1
  rw [h1]
def lineEnc (x : List Int) : List Value := [.string (strOf x)]
abbrev strsC (v : Value) (L : List (List Int)) : Chunk := .own 9 1 v L.length (L.flatMap lineEnc)
theorem strs_snoc (A : Option Addr) (c : Nat) (L : List (List Int)) (x : List Int) : strsC (.slice A (L ++ [x]).length c) (L ++ [x]) = .own 9 1 (.slice A (L.length + 1) c) (L.length + 1) (L.flatMap lineEnc ++ [.string (strOf x)]) := by
  unfold strsC
  rw [List.length_append, List.flatMap_append]
  rfl
def intEnc (n : Int) : List Value := [.int .i64 n]
structure Nx (h : List Int) (nx : NextA) : Prop where
  eq : nextF h = nx
  len : nx.held.length ≤ h.length
  bytes : isBytes nx.held
  tags : nx.tags.length ≤ 64
  sizes : ∀ t ∈ nx.tags, t.value.size ≤ 70368744177664
theorem nextF_sizes {h : List Int} (hh : h.length ≤ 65536) : ∀ t ∈ (nextF h).tags, t.value.size ≤ 70368744177664 := by
  have h1 := (readF_tags (l := h) (N := 70368744177664) (by omega)).1
  unfold nextF
  split
  · intro t ht; cases ht
  · split
    · exact h1
    · intro t ht; cases ht
theorem Nx.mk' {h : List Int} (hB : isBytes h) (hh : h.length ≤ 65536) : Nx h (nextF h) := ⟨rfl, nextF_len h, nextF_bytes hB, nextF_tags h hh, nextF_sizes hh⟩
theorem Nx.ok {h : List Int} {nx : NextA} (hN : Nx h nx) (hB : isBytes h) (ho : nx.ok = true) : ¬ (readF h).why = 20 ∧ nx.kind.size ≤ 281474976710656 ∧ ∃ x, encF nx.kind nx.tags = (0, x) := by
  have he := hN.eq
  subst he
  by_cases h1 : (readF h).why = 20
  · rw [nextF_short h1] at ho; cases ho
  · by_cases h2 : (readF h).size ≠ 0
    · rw [nextF_line h1 h2] at ho ⊢
      have h0 : (readF h).why = 0 := of_decide_eq_true ho
      have h3 := (read_inv hB h0).1
      refine ⟨h1, ?_, _, h3⟩
      have h7 := (encF_ok h3).1
      unfold kindB at h7
      simp only [Bool.and_eq_true, Bool.or_eq_true, decide_eq_true_eq] at h7
      show (readF h).kind.size ≤ _
      omega
    · rw [nextF_foot h1 h2] at ho; cases ho
theorem Nx.no {h : List Int} {nx : NextA} (hN : Nx h nx) (ho : nx.ok = false) (hw : nx.why = 0) : (readF h).why = 20 := by
  have he := hN.eq
  subst he
  by_cases h1 : (readF h).why = 20
  · exact h1
  · exfalso
    by_cases h2 : (readF h).size ≠ 0
    · rw [nextF_line h1 h2] at ho hw
      exact of_decide_eq_false ho hw
    · rw [nextF_foot h1 h2] at hw
      exact h2 (readF_ok_size hw)
theorem Nx.why {h : List Int} {nx : NextA} (hN : Nx h nx) (hs : (readF h).why = 20) : nx.held = h ∧ nx.ok = false ∧ nx.why = 0 := by
  have he := hN.eq
  subst he
  rw [nextF_short hs]
  exact ⟨rfl, rfl, rfl⟩
set_option maxHeartbeats 4000000 in
set_option maxRecDepth 100000 in
theorem lawLines {w : World} {vb vc : Value} {l cs : List Int} {often : Bool} (hr : RSl byteEnc 1 w [] vb l) (hB : isBytes l) (hl : l.length ≤ 65536) (hrc : RSl intEnc 1 w [] vc cs) (hL : Laid2 w) :
    Spec Go.Proofs.Tryd.prog 31 #[vb, vc, .bool often] w [] (fun u H' => ∃ A c, u = .tuple #[.slice A (outF l).1.length c, .bool true] ∧ H' = [strsC (.slice A (outF l).1.length c) (outF l).1]) := by
  have hsm := hrc.small
  obtain ⟨O, hO⟩ : ∃ O, O = (outF l).1 := ⟨_, rfl⟩
  rw [← hO]
  refine Spec.enter (fn := Go.Proofs.Tryd.f31) (n := 112) [vb, vc, .bool often] Go.Proofs.Tryd.func31 (by kernel_rfl) rfl Go.Proofs.Tryd.ntmps31 Go.Proofs.Tryd.results31 rfl (Own.nil _) ?_
  refine JC.rs ?_
  refine Seq.p rfl Ev.assign ?_
  refine Seq.p rfl Ev.assign ?_
  refine Seq.nil ?_
  refine JC.rs ?_
  refine Seq.call rfl (fun w' hw => readerNew) (F := []) (by exact List.Perm.refl _) ?_
  rintro _ _ ⟨b, rfl, rfl⟩
  simp only [List.cons_append, List.nil_append]
  refine Seq.re (fun w h => (h.nilOwn 5 1).nilOwn 9 1) ?_
  refine Seq.p rfl Ev.assign ?_
  refine Seq.nil ?_
  refine JC.seq ?_
  refine JC.rs ?_
  refine Seq.p rfl Ev.move ?_
  refine Seq.p rfl (Ev.eqNilP und.p_text_Reader) ?_
  refine Seq.nil ?_
  first | refine JC.c (ht := fun c22 => ?_) (hf := fun c22 => ?_) | refine JC.cb (ht := fun c22 => ?_) (hf := fun c22 => ?_)
  · -- then_t22
    exfalso
    simp at c22
  · -- else_t22
    refine JC.skip ?_
    refine JC.rs ?_
    refine Seq.p rfl Ev.assign ?_
    refine Seq.nil ?_
    refine JC.seq ?_
    refine JC.rs ?_
    refine Seq.p rfl Ev.assign ?_
    refine Seq.nil ?_
    refine JC.blk ?_
    refine JC.part (H' := [readerC b (.slice none 0 0), bytesC (.slice none 0 0) [], strsC (.slice none 0 0) []]) (by repeat (first | exact Part.nil _ | refine Part.at (by repeat (first | exact At.z | apply At.s)) ?_)) ?_
    refine JC.loop (α := Nat) (I := fun i e1 H1 => ∃ A c A2 c2 h L f, Has [6, 7, 9, 10, 11, 12, 13, 14, 15, 16, 17, 18, 19, 23, 24, 25, 26, 27, 28, 29, 30, 31, 32, 33, 34, 35, 36, 37, 38, 39, 40, 41, 42, 43, 44, 45, 46, 47, 48, 49, 50, 51, 52, 53, 54, 55, 56, 57, 58, 59, 60, 61, 62, 63, 64, 65, 66, 67, 68, 69, 70, 71, 72, 73, 74, 75, 76, 77, 78, 79, 80, 81, 82, 83, 84, 85, 86, 87, 88, 89, 90, 91, 92, 93, 94, 95, 96, 97, 98, 99, 100, 101, 102, 103, 104, 105, 106, 107, 108, 109, 110] [(6, .slice A2 (List.length L) c2), (9, .int .i64 ((f : Nat) : Int)), (10, .int .i64 (i : Int))] _ e1 ∧ H1 = [readerC b (.slice A (List.length h) c), bytesC (.slice A h.length c) h, strsC (.slice A2 L.length c2) L] ∧ i ≤ cs.length + 1 ∧ f ≤ l.length ∧ h.length + L.length ≤ f ∧ isBytes h ∧ Told l f L h ∧ (i = cs.length + 1 → f = l.length ∧ (readF h).why = 20)) (μ := fun i => cs.length + 1 - i) 0 ⟨none, 0, none, 0, [], [], 0, Has.mk Off.refl (allLook_cons (by repeat (first | exact Look.here | apply Look.there (hne := rfl) | exact Look.const | apply Look.mix rfl | exact Look.arg0 | apply Look.args | exact Look.func)) (allLook_cons (by repeat (first | exact Look.here | apply Look.there (hne := rfl) | exact Look.const | apply Look.mix rfl | exact Look.arg0 | apply Look.args | exact Look.func)) (allLook_cons (by repeat (first | exact Look.here | apply Look.there (hne := rfl) | exact Look.const | apply Look.mix rfl | exact Look.arg0 | apply Look.args | exact Look.func)) allLook_nil))), rfl, by omega, by omega, by simp, (by intro x hx; cases hx), Told.zero l, by omega⟩ ?_
    rintro i _ _ ⟨A, c, A2, c2, h, L, f, ⟨u, rfl⟩, rfl, hi, hf, hhL, hB2, hT, hend⟩; dsimp only [setL]
    refine JC.seq ?_
    refine JC.rs ?_
    refine Seq.p rfl Ev.move ?_
    refine Seq.p rfl Ev.move ?_
    refine Seq.p rfl (Ev.lenSl sl.sl_int (hr := hrc.r)) ?_
    refine Seq.p rfl Ev.le ?_
    refine Seq.nil ?_
    first | refine JC.c (ht := fun c26 => ?_) (hf := fun c26 => ?_) | refine JC.cb (ht := fun c26 => ?_) (hf := fun c26 => ?_)
    · -- then_t26
      have hi2 : i ≤ cs.length := by omega
      refine JC.skip ?_
      refine JC.seq ?_
      refine JC.blk ?_
      refine JC.rs ?_
      refine Seq.p rfl Ev.move ?_
      refine Seq.p rfl (Ev.lenSl sl.sl_uint8 (hr := hr.r)) ?_
      refine Seq.p rfl Ev.assign ?_
      refine Seq.nil ?_
      refine JC.seq ?_
      refine JC.rs ?_
      refine Seq.p rfl Ev.move ?_
      refine Seq.p rfl Ev.move ?_
      refine Seq.p rfl (Ev.lenSl sl.sl_int (hr := hrc.r)) ?_
      refine Seq.p rfl Ev.lt ?_
      refine Seq.p rfl Ev.move ?_
      refine Seq.andG (D := [35, 36, 37, 38, 39, 40, 41, 42]) (d := 35) (t := 42) (k := 7) (hn := fun h35 => ?_) (hx := ?_)
      · repeat (first | refine Seq.gn rfl rfl rfl rfl ?_ | refine Seq.gu rfl rfl rfl ?_)
        refine Seq.p rfl Ev.pickF ?_
        exact Seq.nil ⟨rfl, (by repeat (first | with_reducible exact Off.refl | refine Off.upd ?_ rfl | exact Off.mix | refine Off.mix2 ?_ rfl)), Look.here⟩
      apply Exists.intro
      refine ⟨fun h35 => ?_, fun u42 => ?_⟩
      · try simp only [decide_eq_true_eq, decide_eq_false_iff_not, Bool.and_eq_true, Bool.or_eq_true, Bool.not_eq_true', Bool.not_eq_false', Bool.or_eq_false_iff, Bool.and_eq_false_imp] at h35
        refine Seq.gy rfl rfl rfl ?_
        refine Seq.p rfl Ev.move ?_
        refine Seq.gy rfl rfl rfl ?_
        refine Seq.p rfl Ev.move ?_
        refine Seq.gy rfl rfl rfl ?_
        refine Seq.p rfl (Ev.iaN sl.sl_int (hr := hrc.r)) ?_
        refine Seq.gy rfl rfl rfl ?_
        refine Seq.p rfl (Ev.ldE1 sc.int (hr := hrc.r)) ?_
        refine Seq.gy rfl rfl rfl ?_
        refine Seq.p rfl Ev.move ?_
        refine Seq.gy rfl rfl rfl ?_
        refine Seq.p rfl Ev.ge ?_
        refine Seq.p rfl Ev.pickT ?_
        exact Seq.nil ⟨rfl, (by repeat (first | with_reducible exact Off.refl | refine Off.upd ?_ rfl | exact Off.mix | refine Off.mix2 ?_ rfl)), Look.here⟩
      refine Seq.p rfl Ev.move ?_
      refine Seq.andG (D := [43, 44, 45, 46, 47, 48, 49, 50]) (d := 43) (t := 50) (k := 7) (hn := fun h43 => ?_) (hx := ?_)
      · repeat (first | refine Seq.gn rfl rfl rfl rfl ?_ | refine Seq.gu rfl rfl rfl ?_)
        refine Seq.p rfl Ev.pickF ?_
        exact Seq.nil ⟨rfl, (by repeat (first | with_reducible exact Off.refl | refine Off.upd ?_ rfl | exact Off.mix | refine Off.mix2 ?_ rfl)), Look.here⟩
      apply Exists.intro
      refine ⟨fun h43 => ?_, fun u50 => ?_⟩
      · try simp only [decide_eq_true_eq, decide_eq_false_iff_not, Bool.and_eq_true, Bool.or_eq_true, Bool.not_eq_true', Bool.not_eq_false', Bool.or_eq_false_iff, Bool.and_eq_false_imp] at h43
        refine Seq.gy rfl rfl rfl ?_
        refine Seq.p rfl Ev.move ?_
        refine Seq.gy rfl rfl rfl ?_
        refine Seq.p rfl Ev.move ?_
        refine Seq.gy rfl rfl rfl ?_
        refine Seq.p rfl (Ev.iaN sl.sl_int (hr := hrc.r)) ?_
        refine Seq.gy rfl rfl rfl ?_
        refine Seq.p rfl (Ev.ldE1 sc.int (hr := hrc.r)) ?_
        refine Seq.gy rfl rfl rfl ?_
        refine Seq.p rfl Ev.move ?_
        refine Seq.gy rfl rfl rfl ?_
        refine Seq.p rfl Ev.lt ?_
        refine Seq.p rfl Ev.pickT ?_
        exact Seq.nil ⟨rfl, (by repeat (first | with_reducible exact Off.refl | refine Off.upd ?_ rfl | exact Off.mix | refine Off.mix2 ?_ rfl)), Look.here⟩
      refine Seq.nil ?_
      first | refine JC.c (ht := fun c50 => ?_) (hf := fun c50 => ?_) | refine JC.cb (ht := fun c50 => ?_) (hf := fun c50 => ?_)
      · -- then_t50
        simp only [Bool.and_eq_true, decide_eq_true_eq] at c50
        obtain ⟨t, ht⟩ : ∃ t : Nat, cs[i]! = (t : Int) := ⟨(cs[i]!).toNat, (Int.toNat_of_nonneg (by omega)).symm⟩
        have htf : f ≤ t ∧ t ≤ l.length ∧ (i = cs.length → t = l.length) := by omega
        refine JC.reg ?_
        refine Seq.p rfl Ev.move ?_
        refine Seq.p rfl Ev.move ?_
        refine Seq.p rfl (Ev.iaN sl.sl_int (hr := hrc.r)) ?_
        refine Seq.p rfl (Ev.ldE1 sc.int (hr := hrc.r)) ?_
        rw [ht]
        refine Seq.p rfl Ev.assign ?_
        refine Seq.nil ?_
        refine JC.seq ?_
        refine JC.rs ?_
        refine Seq.p rfl Ev.move ?_
        have hpl : ((l.drop f).take (t - f)).length = t - f := by rw [List.length_take, List.length_drop]; omega
        have hTf := hT.feed htf.1
        have hsub : RSl byteEnc 1 w [] (subSl vb f t 1) ((l.drop f).take (t - f)) := hr.sub htf.1 htf.2.1
        have hBp : isBytes ((l.drop f).take (t - f)) := isBytes_take (isBytes_drop hB)
        obtain ⟨pc, hpc⟩ : ∃ p, p = (l.drop f).take (t - f) := ⟨_, rfl⟩
        rw [← hpc] at hpl hTf hsub hBp
        have hff : feedF h pc = (h ++ pc, 0) := if_neg (by omega)
        refine Seq.buildSl (cs := []) (hsl := sl.sl_uint8) (hz := z.uint8) (hcs := rfl) (k := ?_); intro b56
        refine Seq.re (fun w h => Upd.boxOwn h (n := 0) (size := 1) At.z rfl (by omega)) ?_
        refine Seq.p rfl Ev.move ?_
        refine Seq.p rfl Ev.move ?_
        refine Seq.p rfl Ev.move ?_
        refine Seq.p rfl (Ev.cut sl.sl_uint8 (hr := hr.r) (l := f) (h := t) (hlo := ⟨_, (by repeat (first | exact Look.here | apply Look.there (hne := rfl) | exact Look.const | apply Look.mix rfl | exact Look.arg0 | apply Look.args | exact Look.func))⟩) (hhi := ⟨_, (by repeat (first | exact Look.here | apply Look.there (hne := rfl) | exact Look.const | apply Look.mix rfl | exact Look.arg0 | apply Look.args | exact Look.func))⟩)) ?_
        refine Seq.append (hsl := sl.sl_uint8) (he := el.uint8) (hH := At.z) (hsrc := fun w' hw => Src.rsl sl.sl_uint8 (hsub.up hw) (by omega) byteOne) (k := ?_); intro A61 c61
        rw [Nat.zero_add pc.length, List.nil_append]
        refine Seq.call rfl (fun w' hw => by have h9 := readerFeed ((RSl.owned (enc := byteEnc) (xs := pc) At.z hw rfl rfl (fun _ => rfl) (by omega)).part (by repeat (first | exact Part.nil _ | refine Part.at (by repeat (first | exact At.z | apply At.s)) ?_))) (hw.part (by repeat (first | exact Part.nil _ | refine Part.at (by repeat (first | exact At.z | apply At.s)) ?_))).own (by omega); rw [hff] at h9; exact h9) (Gs := [readerC b (.slice A h.length c), bytesC (.slice A h.length c) h]) (F := [_, _]) (by exact (List.perm_append_comm (l₁ := [_, _]) (l₂ := [_])).append_right [_]) ?_
        rintro _ _ ⟨A62, c62, rfl, rfl⟩
        simp only [List.cons_append, List.nil_append]
        obtain ⟨h2, hh2⟩ : ∃ x, x = h ++ pc := ⟨_, rfl⟩
        have hl2 : h2.length = h.length + pc.length := by rw [hh2, List.length_append]
        have hB3 : isBytes h2 := by rw [hh2]; exact app_bytes hB2 hBp
        rw [← hh2] at hTf ⊢
        refine Seq.p rfl Ev.ne ?_
        refine Seq.nil ?_
        first | refine JC.c (ht := fun c63 => ?_) (hf := fun c63 => ?_) | refine JC.cb (ht := fun c63 => ?_) (hf := fun c63 => ?_)
        · -- then_t63
          exfalso
          exact c63 rfl
        · -- else_t63
          refine JC.skip ?_
          refine JC.rs ?_
          refine Seq.p rfl Ev.move ?_
          refine Seq.p rfl Ev.assign ?_
          refine Seq.nil ?_
          refine JC.seq ?_
          refine JC.rs ?_
          refine Seq.p rfl Ev.move ?_
          refine Seq.p rfl Ev.not ?_
          refine Seq.p rfl Ev.move ?_
          refine Seq.andG (D := [67, 68, 69, 70, 71, 72]) (d := 67) (t := 72) (k := 5) (hn := fun h67 => ?_) (hx := ?_)
          · repeat (first | refine Seq.gn rfl rfl rfl rfl ?_ | refine Seq.gu rfl rfl rfl ?_)
            refine Seq.p rfl Ev.pickF ?_
            exact Seq.nil ⟨rfl, (by repeat (first | with_reducible exact Off.refl | refine Off.upd ?_ rfl | exact Off.mix | refine Off.mix2 ?_ rfl)), Look.here⟩
          apply Exists.intro
          refine ⟨fun h67 => ?_, fun u72 => ?_⟩
          · try simp only [decide_eq_true_eq, decide_eq_false_iff_not, Bool.and_eq_true, Bool.or_eq_true, Bool.not_eq_true', Bool.not_eq_false', Bool.or_eq_false_iff, Bool.and_eq_false_imp] at h67
            refine Seq.gy rfl rfl rfl ?_
            refine Seq.p rfl Ev.move ?_
            refine Seq.gy rfl rfl rfl ?_
            refine Seq.p rfl Ev.move ?_
            refine Seq.gy rfl rfl rfl ?_
            refine Seq.p rfl (Ev.lenSl sl.sl_uint8 (hr := hr.r)) ?_
            refine Seq.gy rfl rfl rfl ?_
            refine Seq.p rfl Ev.lt ?_
            refine Seq.p rfl Ev.pickT ?_
            exact Seq.nil ⟨rfl, (by repeat (first | with_reducible exact Off.refl | refine Off.upd ?_ rfl | exact Off.mix | refine Off.mix2 ?_ rfl)), Look.here⟩
          refine Seq.nil ?_
          first | refine JC.c (ht := fun c72 => ?_) (hf := fun c72 => ?_) | refine JC.cb (ht := fun c72 => ?_) (hf := fun c72 => ?_)
          · -- then_t72
            simp only [Bool.and_eq_true, Bool.not_eq_true', decide_eq_true_eq] at c72
            refine JC.exit ?_ -- 1
            refine JC.reg ?_
            refine Seq.p rfl Ev.move ?_
            refine Seq.p rfl (by first | exact Ev.inc | exact Ev.add) ?_
            refine Seq.p rfl Ev.assign ?_
            refine Seq.nil ?_
            first | exact ⟨i + 1, [readerC b (.slice A62 h2.length c62), bytesC (.slice A62 h2.length c62) h2, strsC (.slice A2 L.length c2) L], (by repeat (first | exact Part.nil _ | refine Part.at (by repeat (first | exact At.z | apply At.s)) ?_)), ⟨A62, c62, A2, c2, h2, L, t, Has.mk (by repeat (first | refine Off.upd ?_ rfl | exact Off.mix | refine Off.mix2 ?_ rfl | exact Off.refl)) (allLook_cons (by repeat (first | exact Look.here | apply Look.there (hne := rfl) | exact Look.const | apply Look.mix rfl | exact Look.arg0 | apply Look.args | exact Look.func)) (allLook_cons (by repeat (first | exact Look.here | apply Look.there (hne := rfl) | exact Look.const | apply Look.mix rfl | exact Look.arg0 | apply Look.args | exact Look.func)) (allLook_cons (by repeat (first | exact Look.here | apply Look.there (hne := rfl) | exact Look.const | apply Look.mix rfl | exact Look.arg0 | apply Look.args | exact Look.func)) allLook_nil))), rfl, by omega, by omega, by omega, hB3, hTf, by omega⟩, by omega⟩ | exact ⟨i + 1, _, Part.refl _, ⟨A, c, A2, c2, h, L, t, Has.mk (by repeat (first | refine Off.upd ?_ rfl | exact Off.mix | refine Off.mix2 ?_ rfl | exact Off.refl)) (allLook_cons (by repeat (first | exact Look.here | apply Look.there (hne := rfl) | exact Look.const | apply Look.mix rfl | exact Look.arg0 | apply Look.args | exact Look.func)) (allLook_cons (by repeat (first | exact Look.here | apply Look.there (hne := rfl) | exact Look.const | apply Look.mix rfl | exact Look.arg0 | apply Look.args | exact Look.func)) (allLook_cons (by repeat (first | exact Look.here | apply Look.there (hne := rfl) | exact Look.const | apply Look.mix rfl | exact Look.arg0 | apply Look.args | exact Look.func)) allLook_nil))), rfl, by omega, by omega, by omega, hB4, hT, fun _ => ⟨by omega, hdn rfl⟩⟩, by omega⟩
          · -- else_t72
            refine JC.skip ?_
            refine JC.rs ?_
            refine Seq.p rfl Ev.assign ?_
            refine Seq.nil ?_
            refine JC.seq ?_
            refine JC.rs ?_
            refine Seq.p rfl Ev.move ?_
            refine Seq.callP rfl (fun w' hw => readerWaiting (h := h2) (box_cell hw (by repeat (first | exact At.z | apply At.s)) rfl) (RAt.up (RAt.own (enc := byteEnc) (xs := h2)) hw)) ?_
            refine Seq.p rfl (by first | exact Ev.inc | exact Ev.add) ?_
            refine Seq.p rfl Ev.assign ?_
            refine Seq.nil ?_
            refine JC.blk ?_
            refine JC.part (H' := [readerC b (.slice A62 h2.length c62), bytesC (.slice A62 h2.length c62) h2, strsC (.slice A2 L.length c2) L]) (by repeat (first | exact Part.nil _ | refine Part.at (by repeat (first | exact At.z | apply At.s)) ?_)) ?_
            refine JC.loop (α := Nat) (I := fun s e1 H1 => ∃ done A c A2 c2 h L, Has [6, 12, 13, 14, 15, 16, 17, 18, 19, 76, 77, 78, 79, 80, 81, 82, 83, 84, 85, 86, 87, 88, 89, 90, 91, 92, 93, 94, 95, 96, 97, 98, 99, 100, 101, 102, 103, 104, 105, 106, 107, 108] [(6, .slice A2 (List.length L) c2), (12, .bool done), (13, .int .i64 (s : Int))] _ e1 ∧ H1 = [readerC b (.slice A (List.length h) c), bytesC (.slice A h.length c) h, strsC (.slice A2 L.length c2) L] ∧ (done = false → h.length + 1 ≤ s) ∧ s ≤ 65537 ∧ h.length + L.length ≤ t ∧ isBytes h ∧ Told l t L h ∧ (done = true → (readF h).why = 20)) (μ := fun s => s) (h2.length + 1) ⟨false, A62, c62, A2, c2, h2, L, Has.mk Off.refl (allLook_cons (by repeat (first | exact Look.here | apply Look.there (hne := rfl) | exact Look.const | apply Look.mix rfl | exact Look.arg0 | apply Look.args | exact Look.func)) (allLook_cons (by repeat (first | exact Look.here | apply Look.there (hne := rfl) | exact Look.const | apply Look.mix rfl | exact Look.arg0 | apply Look.args | exact Look.func)) (allLook_cons (by repeat (first | exact Look.here | apply Look.there (hne := rfl) | exact Look.const | apply Look.mix rfl | exact Look.arg0 | apply Look.args | exact Look.func)) allLook_nil))), rfl, fun _ => Nat.le_refl _, by omega, by omega, hB3, hTf, fun hd => by cases hd⟩ ?_
            rintro s _ _ ⟨done, A, c, A2, c2, h, L, ⟨u2, rfl⟩, rfl, hsl, hs7, hhL, hB4, hT, hdn⟩; dsimp only [setL]
            refine JC.seq ?_
            refine JC.rs ?_
            refine Seq.p rfl Ev.move ?_
            refine Seq.p rfl Ev.ge ?_
            refine Seq.p rfl Ev.move ?_
            refine Seq.andG (D := [78, 79, 80, 81]) (d := 78) (t := 81) (k := 3) (hn := fun h78 => ?_) (hx := ?_)
            · repeat (first | refine Seq.gn rfl rfl rfl rfl ?_ | refine Seq.gu rfl rfl rfl ?_)
              refine Seq.p rfl Ev.pickF ?_
              exact Seq.nil ⟨rfl, (by repeat (first | with_reducible exact Off.refl | refine Off.upd ?_ rfl | exact Off.mix | refine Off.mix2 ?_ rfl)), Look.here⟩
            apply Exists.intro
            refine ⟨fun h78 => ?_, fun u81 => ?_⟩
            · try simp only [decide_eq_true_eq, decide_eq_false_iff_not, Bool.and_eq_true, Bool.or_eq_true, Bool.not_eq_true', Bool.not_eq_false', Bool.or_eq_false_iff, Bool.and_eq_false_imp] at h78
              refine Seq.gy rfl rfl rfl ?_
              refine Seq.p rfl Ev.move ?_
              refine Seq.gy rfl rfl rfl ?_
              refine Seq.p rfl Ev.not ?_
              refine Seq.p rfl Ev.pickT ?_
              exact Seq.nil ⟨rfl, (by repeat (first | with_reducible exact Off.refl | refine Off.upd ?_ rfl | exact Off.mix | refine Off.mix2 ?_ rfl)), Look.here⟩
            refine Seq.nil ?_
            first | refine JC.c (ht := fun c81 => ?_) (hf := fun c81 => ?_) | refine JC.cb (ht := fun c81 => ?_) (hf := fun c81 => ?_)
            · -- then_t81
              obtain rfl : done = false := by
                cases done with
                | false => rfl
                | true => simp at c81
              have hs1 := hsl rfl
              have hN := Nx.mk' hB4 (by omega)
              have hNl := fun hn => nextF_lt (h := h) hn
              have hNT := fun hn => hT.next (h := h) hn
              refine JC.skip ?_
              refine JC.seq ?_
              refine JC.blk ?_
              refine JC.rs ?_
              refine Seq.p rfl Ev.move ?_
              refine Seq.call rfl (fun w' hw => readerNext (hw.part (by repeat (first | exact Part.nil _ | refine Part.at (by repeat (first | exact At.z | apply At.s)) ?_))) hL hB4 (by omega)) (F := [_]) (by exact List.Perm.refl _) ?_
              rintro _ _ ⟨A86, c86, A87, c87, rfl, rfl⟩
              simp only [List.cons_append, List.nil_append]
              generalize nextF h = nx at hN hNl hNT ⊢
              have hnl := hN.len
              have hnt := hN.tags
              refine Seq.p rfl Ev.move ?_
              refine Seq.p rfl Ev.extract ?_
              refine Seq.p rfl Ev.extract ?_
              refine Seq.p rfl Ev.extract ?_
              refine Seq.p rfl Ev.extract ?_
              refine Seq.p rfl Ev.assign ?_
              refine Seq.p rfl Ev.assign ?_
              refine Seq.p rfl Ev.assign ?_
              refine Seq.p rfl Ev.assign ?_
              refine Seq.nil ?_
              refine JC.seq ?_
              refine JC.rs ?_
              refine Seq.p rfl Ev.move ?_
              refine Seq.nil ?_
              first | refine JC.c (ht := fun c91 => ?_) (hf := fun c91 => ?_) | refine JC.cb (ht := fun c91 => ?_) (hf := fun c91 => ?_)
              · -- then_t91
                obtain ⟨q1, q2, x, q3⟩ := hN.ok hB4 c91
                have q4 := hNT q1
                have q5 := hNl q1
                rw [c91, if_pos rfl, q3] at q4
                have q6 := encF_len nx.kind nx.tags
                rw [q3] at q6
                replace q6 : x.length ≤ 2048 := q6
                refine JC.rs ?_
                refine Seq.p rfl Ev.move ?_
                refine Seq.p rfl Ev.move ?_
                refine Seq.call rfl (fun w' hw => by have h9 := textEncode (kind := nx.kind) (RAt.up (RAt.own (enc := Tg.enc) (xs := nx.tags)) hw) q2 hN.sizes (encF_body q3) ((hL.up hw).laid); rw [q3] at h9; exact h9) (F := _) (by exact List.Perm.refl _) ?_
                rintro _ _ ⟨A95, c95, rfl, rfl⟩
                simp only [List.cons_append, List.nil_append]
                refine Seq.p rfl Ev.move ?_
                refine Seq.p rfl Ev.extract ?_
                refine Seq.p rfl Ev.extract ?_
                refine Seq.p rfl Ev.assign ?_
                refine Seq.p rfl Ev.assign ?_
                refine Seq.nil ?_
                refine JC.reg ?_
                refine Seq.p rfl Ev.move ?_
                refine Seq.p rfl Ev.move ?_
                refine Seq.p rfl (Ev.strOf (l := x) sl.sl_uint8 it.uint8 st.string (hr := RAt.own (enc := byteEnc) (xs := x))) ?_
                refine Seq.buildSlN [_] (hsl := sl.sl_string) (hz := z.string) (k := ?_); intro b101
                refine Seq.append (hsl := sl.sl_string) (he := el.string) (hH := At.s (At.s (At.s (At.s (At.s At.z))))) (hsrc := fun w' hw => Src.box (hl := by rfl) (hc := fun q u hu => hu) sl.sl_string At.z hw) (k := ?_); intro A102 c102
                rw [← strs_snoc]
                refine Seq.p rfl Ev.assign ?_
                refine Seq.nil ?_
                refine JC.reg ?_
                refine Seq.p rfl Ev.move ?_
                refine Seq.p rfl Ev.not ?_
                refine Seq.p rfl Ev.move ?_
                refine Seq.andG (D := [105, 106, 107, 108]) (d := 105) (t := 108) (k := 3) (hn := fun h105 => ?_) (hx := ?_)
                · repeat (first | refine Seq.gn rfl rfl rfl rfl ?_ | refine Seq.gu rfl rfl rfl ?_)
                  refine Seq.p rfl Ev.pickF ?_
                  exact Seq.nil ⟨rfl, (by repeat (first | with_reducible exact Off.refl | refine Off.upd ?_ rfl | exact Off.mix | refine Off.mix2 ?_ rfl)), Look.here⟩
                apply Exists.intro
                refine ⟨fun h105 => ?_, fun u108 => ?_⟩
                · try simp only [decide_eq_true_eq, decide_eq_false_iff_not, Bool.and_eq_true, Bool.or_eq_true, Bool.not_eq_true', Bool.not_eq_false', Bool.or_eq_false_iff, Bool.and_eq_false_imp] at h105
                  refine Seq.gy rfl rfl rfl ?_
                  refine Seq.p rfl Ev.move ?_
                  refine Seq.gy rfl rfl rfl ?_
                  refine Seq.p rfl Ev.eq ?_
                  refine Seq.p rfl Ev.pickT ?_
                  exact Seq.nil ⟨rfl, (by repeat (first | with_reducible exact Off.refl | refine Off.upd ?_ rfl | exact Off.mix | refine Off.mix2 ?_ rfl)), Look.here⟩
                refine Seq.p rfl Ev.assign ?_
                refine Seq.nil ?_
                refine JC.reg ?_
                refine Seq.p rfl Ev.move ?_
                refine Seq.p rfl (Ev.dec (m := s)) ?_
                refine Seq.p rfl Ev.assign ?_
                refine Seq.nil ?_
                first | exact ⟨s - 1, [readerC b (.slice A87 nx.held.length c87), bytesC (.slice A87 nx.held.length c87) nx.held, strsC (.slice A102 (L ++ [x]).length c102) (L ++ [x])], (by repeat (first | exact Part.nil _ | refine Part.at (by repeat (first | exact At.z | apply At.s)) ?_)), ⟨_, A87, c87, A102, c102, nx.held, L ++ [x], Has.mk (by repeat (first | refine Off.upd ?_ rfl | exact Off.mix | refine Off.mix2 ?_ rfl | exact Off.refl)) (allLook_cons (by rw [List.length_append]; exact (by repeat (first | exact Look.here | apply Look.there (hne := rfl) | exact Look.const | apply Look.mix rfl | exact Look.arg0 | apply Look.args | exact Look.func))) (allLook_cons (by repeat (first | exact Look.here | apply Look.there (hne := rfl) | exact Look.const | apply Look.mix rfl | exact Look.arg0 | apply Look.args | exact Look.func)) (allLook_cons (by repeat (first | exact Look.here | apply Look.there (hne := rfl) | exact Look.const | apply Look.mix rfl | exact Look.arg0 | apply Look.args | exact Look.func)) allLook_nil))), rfl, fun _ => by omega, by omega, by rw [List.length_append]; show _ + (_ + 1) ≤ _; omega, hN.bytes, q4, fun hd => by rw [c91] at hd; simp at hd⟩, by omega⟩ | exact ⟨s - 1, [readerC b (.slice A87 nx.held.length c87), bytesC (.slice A87 nx.held.length c87) nx.held, strsC (.slice A2 L.length c2) L], (by repeat (first | exact Part.nil _ | refine Part.at (by repeat (first | exact At.z | apply At.s)) ?_)), ⟨_, A87, c87, A2, c2, nx.held, L, Has.mk (by repeat (first | refine Off.upd ?_ rfl | exact Off.mix | refine Off.mix2 ?_ rfl | exact Off.refl)) (allLook_cons (by repeat (first | exact Look.here | apply Look.there (hne := rfl) | exact Look.const | apply Look.mix rfl | exact Look.arg0 | apply Look.args | exact Look.func)) (allLook_cons (by repeat (first | exact Look.here | apply Look.there (hne := rfl) | exact Look.const | apply Look.mix rfl | exact Look.arg0 | apply Look.args | exact Look.func)) (allLook_cons (by repeat (first | exact Look.here | apply Look.there (hne := rfl) | exact Look.const | apply Look.mix rfl | exact Look.arg0 | apply Look.args | exact Look.func)) allLook_nil))), rfl, q7, by omega, by omega, hN.bytes, q8, q9⟩, by omega⟩
              · -- else_t91
                have q7 : (!nx.ok && decide (nx.why = 0)) = false → nx.held.length + 1 ≤ s - 1 := fun hd => by
                  rw [c91] at hd
                  have hw : ¬ nx.why = 0 := by simpa using hd
                  have := hNl (fun hs => hw (hN.why hs).2.2)
                  omega
                have q8 : Told l t L nx.held := by
                  by_cases hs : (readF h).why = 20
                  · rw [(hN.why hs).1]; exact hT
                  · have := hNT hs
                    rw [c91, if_neg (by decide), List.append_nil] at this
                    exact this
                have q9 : (!nx.ok && decide (nx.why = 0)) = true → (readF nx.held).why = 20 := fun hd => by
                  rw [c91] at hd
                  have hw : nx.why = 0 := by simpa using hd
                  have hs := hN.no c91 hw
                  rw [(hN.why hs).1]
                  exact hs
                refine JC.skip ?_
                refine JC.reg ?_
                refine Seq.p rfl Ev.move ?_
                refine Seq.p rfl Ev.not ?_
                refine Seq.p rfl Ev.move ?_
                refine Seq.andG (D := [105, 106, 107, 108]) (d := 105) (t := 108) (k := 3) (hn := fun h105 => ?_) (hx := ?_)
                · repeat (first | refine Seq.gn rfl rfl rfl rfl ?_ | refine Seq.gu rfl rfl rfl ?_)
                  refine Seq.p rfl Ev.pickF ?_
                  exact Seq.nil ⟨rfl, (by repeat (first | with_reducible exact Off.refl | refine Off.upd ?_ rfl | exact Off.mix | refine Off.mix2 ?_ rfl)), Look.here⟩
                apply Exists.intro
                refine ⟨fun h105 => ?_, fun u108 => ?_⟩
                · try simp only [decide_eq_true_eq, decide_eq_false_iff_not, Bool.and_eq_true, Bool.or_eq_true, Bool.not_eq_true', Bool.not_eq_false', Bool.or_eq_false_iff, Bool.and_eq_false_imp] at h105
                  refine Seq.gy rfl rfl rfl ?_
                  refine Seq.p rfl Ev.move ?_
                  refine Seq.gy rfl rfl rfl ?_
                  refine Seq.p rfl Ev.eq ?_
                  refine Seq.p rfl Ev.pickT ?_
                  exact Seq.nil ⟨rfl, (by repeat (first | with_reducible exact Off.refl | refine Off.upd ?_ rfl | exact Off.mix | refine Off.mix2 ?_ rfl)), Look.here⟩
                refine Seq.p rfl Ev.assign ?_
                refine Seq.nil ?_
                refine JC.reg ?_
                refine Seq.p rfl Ev.move ?_
                refine Seq.p rfl (Ev.dec (m := s)) ?_
                refine Seq.p rfl Ev.assign ?_
                refine Seq.nil ?_
                first | exact ⟨s - 1, [readerC b (.slice A87 nx.held.length c87), bytesC (.slice A87 nx.held.length c87) nx.held, strsC (.slice A102 (L ++ [x]).length c102) (L ++ [x])], (by repeat (first | exact Part.nil _ | refine Part.at (by repeat (first | exact At.z | apply At.s)) ?_)), ⟨_, A87, c87, A102, c102, nx.held, L ++ [x], Has.mk (by repeat (first | refine Off.upd ?_ rfl | exact Off.mix | refine Off.mix2 ?_ rfl | exact Off.refl)) (allLook_cons (by rw [List.length_append]; exact (by repeat (first | exact Look.here | apply Look.there (hne := rfl) | exact Look.const | apply Look.mix rfl | exact Look.arg0 | apply Look.args | exact Look.func))) (allLook_cons (by repeat (first | exact Look.here | apply Look.there (hne := rfl) | exact Look.const | apply Look.mix rfl | exact Look.arg0 | apply Look.args | exact Look.func)) (allLook_cons (by repeat (first | exact Look.here | apply Look.there (hne := rfl) | exact Look.const | apply Look.mix rfl | exact Look.arg0 | apply Look.args | exact Look.func)) allLook_nil))), rfl, fun _ => by omega, by omega, by rw [List.length_append]; show _ + (_ + 1) ≤ _; omega, hN.bytes, q4, fun hd => by rw [c91] at hd; simp at hd⟩, by omega⟩ | exact ⟨s - 1, [readerC b (.slice A87 nx.held.length c87), bytesC (.slice A87 nx.held.length c87) nx.held, strsC (.slice A2 L.length c2) L], (by repeat (first | exact Part.nil _ | refine Part.at (by repeat (first | exact At.z | apply At.s)) ?_)), ⟨_, A87, c87, A2, c2, nx.held, L, Has.mk (by repeat (first | refine Off.upd ?_ rfl | exact Off.mix | refine Off.mix2 ?_ rfl | exact Off.refl)) (allLook_cons (by repeat (first | exact Look.here | apply Look.there (hne := rfl) | exact Look.const | apply Look.mix rfl | exact Look.arg0 | apply Look.args | exact Look.func)) (allLook_cons (by repeat (first | exact Look.here | apply Look.there (hne := rfl) | exact Look.const | apply Look.mix rfl | exact Look.arg0 | apply Look.args | exact Look.func)) (allLook_cons (by repeat (first | exact Look.here | apply Look.there (hne := rfl) | exact Look.const | apply Look.mix rfl | exact Look.arg0 | apply Look.args | exact Look.func)) allLook_nil))), rfl, q7, by omega, by omega, hN.bytes, q8, q9⟩, by omega⟩
            · -- else_t81
              obtain rfl : done = true := by
                cases done with
                | true => rfl
                | false => simp at c81
              refine JC.exit ?_ -- 2
              refine JC.rs ?_
              refine Seq.p rfl Ev.move ?_
              refine Seq.p rfl Ev.not ?_
              refine Seq.nil ?_
              first | refine JC.c (ht := fun c110 => ?_) (hf := fun c110 => ?_) | refine JC.cb (ht := fun c110 => ?_) (hf := fun c110 => ?_)
              · -- then_t110
                exfalso
                simp at c110
              · -- else_t110
                refine JC.skip ?_
                refine JC.reg ?_
                refine Seq.p rfl Ev.move ?_
                refine Seq.p rfl (by first | exact Ev.inc | exact Ev.add) ?_
                refine Seq.p rfl Ev.assign ?_
                refine Seq.nil ?_
                first | exact ⟨i + 1, [readerC b (.slice A62 h2.length c62), bytesC (.slice A62 h2.length c62) h2, strsC (.slice A2 L.length c2) L], (by repeat (first | exact Part.nil _ | refine Part.at (by repeat (first | exact At.z | apply At.s)) ?_)), ⟨A62, c62, A2, c2, h2, L, t, Has.mk (by repeat (first | refine Off.upd ?_ rfl | exact Off.mix | refine Off.mix2 ?_ rfl | exact Off.refl)) (allLook_cons (by repeat (first | exact Look.here | apply Look.there (hne := rfl) | exact Look.const | apply Look.mix rfl | exact Look.arg0 | apply Look.args | exact Look.func)) (allLook_cons (by repeat (first | exact Look.here | apply Look.there (hne := rfl) | exact Look.const | apply Look.mix rfl | exact Look.arg0 | apply Look.args | exact Look.func)) (allLook_cons (by repeat (first | exact Look.here | apply Look.there (hne := rfl) | exact Look.const | apply Look.mix rfl | exact Look.arg0 | apply Look.args | exact Look.func)) allLook_nil))), rfl, by omega, by omega, by omega, hB3, hTf, by omega⟩, by omega⟩ | exact ⟨i + 1, _, Part.refl _, ⟨A, c, A2, c2, h, L, t, Has.mk (by repeat (first | refine Off.upd ?_ rfl | exact Off.mix | refine Off.mix2 ?_ rfl | exact Off.refl)) (allLook_cons (by repeat (first | exact Look.here | apply Look.there (hne := rfl) | exact Look.const | apply Look.mix rfl | exact Look.arg0 | apply Look.args | exact Look.func)) (allLook_cons (by repeat (first | exact Look.here | apply Look.there (hne := rfl) | exact Look.const | apply Look.mix rfl | exact Look.arg0 | apply Look.args | exact Look.func)) (allLook_cons (by repeat (first | exact Look.here | apply Look.there (hne := rfl) | exact Look.const | apply Look.mix rfl | exact Look.arg0 | apply Look.args | exact Look.func)) allLook_nil))), rfl, by omega, by omega, by omega, hB4, hT, fun _ => ⟨by omega, hdn rfl⟩⟩, by omega⟩
      · -- else_t50
        obtain ⟨t, ht⟩ : ∃ t, t = l.length := ⟨_, rfl⟩
        have htf : f ≤ t ∧ t ≤ l.length ∧ (i = cs.length → t = l.length) := by omega
        rw [← ht]
        refine JC.skip ?_
        refine JC.seq ?_
        refine JC.rs ?_
        refine Seq.p rfl Ev.move ?_
        have hpl : ((l.drop f).take (t - f)).length = t - f := by rw [List.length_take, List.length_drop]; omega
        have hTf := hT.feed htf.1
        have hsub : RSl byteEnc 1 w [] (subSl vb f t 1) ((l.drop f).take (t - f)) := hr.sub htf.1 htf.2.1
        have hBp : isBytes ((l.drop f).take (t - f)) := isBytes_take (isBytes_drop hB)
        obtain ⟨pc, hpc⟩ : ∃ p, p = (l.drop f).take (t - f) := ⟨_, rfl⟩
        rw [← hpc] at hpl hTf hsub hBp
        have hff : feedF h pc = (h ++ pc, 0) := if_neg (by omega)
        refine Seq.buildSl (cs := []) (hsl := sl.sl_uint8) (hz := z.uint8) (hcs := rfl) (k := ?_); intro b56
        refine Seq.re (fun w h => Upd.boxOwn h (n := 0) (size := 1) At.z rfl (by omega)) ?_
        refine Seq.p rfl Ev.move ?_
        refine Seq.p rfl Ev.move ?_
        refine Seq.p rfl Ev.move ?_
        refine Seq.p rfl (Ev.cut sl.sl_uint8 (hr := hr.r) (l := f) (h := t) (hlo := ⟨_, (by repeat (first | exact Look.here | apply Look.there (hne := rfl) | exact Look.const | apply Look.mix rfl | exact Look.arg0 | apply Look.args | exact Look.func))⟩) (hhi := ⟨_, (by repeat (first | exact Look.here | apply Look.there (hne := rfl) | exact Look.const | apply Look.mix rfl | exact Look.arg0 | apply Look.args | exact Look.func))⟩)) ?_
        refine Seq.append (hsl := sl.sl_uint8) (he := el.uint8) (hH := At.z) (hsrc := fun w' hw => Src.rsl sl.sl_uint8 (hsub.up hw) (by omega) byteOne) (k := ?_); intro A61 c61
        rw [Nat.zero_add pc.length, List.nil_append]
        refine Seq.call rfl (fun w' hw => by have h9 := readerFeed ((RSl.owned (enc := byteEnc) (xs := pc) At.z hw rfl rfl (fun _ => rfl) (by omega)).part (by repeat (first | exact Part.nil _ | refine Part.at (by repeat (first | exact At.z | apply At.s)) ?_))) (hw.part (by repeat (first | exact Part.nil _ | refine Part.at (by repeat (first | exact At.z | apply At.s)) ?_))).own (by omega); rw [hff] at h9; exact h9) (Gs := [readerC b (.slice A h.length c), bytesC (.slice A h.length c) h]) (F := [_, _]) (by exact (List.perm_append_comm (l₁ := [_, _]) (l₂ := [_])).append_right [_]) ?_
        rintro _ _ ⟨A62, c62, rfl, rfl⟩
        simp only [List.cons_append, List.nil_append]
        obtain ⟨h2, hh2⟩ : ∃ x, x = h ++ pc := ⟨_, rfl⟩
        have hl2 : h2.length = h.length + pc.length := by rw [hh2, List.length_append]
        have hB3 : isBytes h2 := by rw [hh2]; exact app_bytes hB2 hBp
        rw [← hh2] at hTf ⊢
        refine Seq.p rfl Ev.ne ?_
        refine Seq.nil ?_
        first | refine JC.c (ht := fun c63 => ?_) (hf := fun c63 => ?_) | refine JC.cb (ht := fun c63 => ?_) (hf := fun c63 => ?_)
        · -- then_t63
          exfalso
          exact c63 rfl
        · -- else_t63
          refine JC.skip ?_
          refine JC.rs ?_
          refine Seq.p rfl Ev.move ?_
          refine Seq.p rfl Ev.assign ?_
          refine Seq.nil ?_
          refine JC.seq ?_
          refine JC.rs ?_
          refine Seq.p rfl Ev.move ?_
          refine Seq.p rfl Ev.not ?_
          refine Seq.p rfl Ev.move ?_
          refine Seq.andG (D := [67, 68, 69, 70, 71, 72]) (d := 67) (t := 72) (k := 5) (hn := fun h67 => ?_) (hx := ?_)
          · repeat (first | refine Seq.gn rfl rfl rfl rfl ?_ | refine Seq.gu rfl rfl rfl ?_)
            refine Seq.p rfl Ev.pickF ?_
            exact Seq.nil ⟨rfl, (by repeat (first | with_reducible exact Off.refl | refine Off.upd ?_ rfl | exact Off.mix | refine Off.mix2 ?_ rfl)), Look.here⟩
          apply Exists.intro
          refine ⟨fun h67 => ?_, fun u72 => ?_⟩
          · try simp only [decide_eq_true_eq, decide_eq_false_iff_not, Bool.and_eq_true, Bool.or_eq_true, Bool.not_eq_true', Bool.not_eq_false', Bool.or_eq_false_iff, Bool.and_eq_false_imp] at h67
            refine Seq.gy rfl rfl rfl ?_
            refine Seq.p rfl Ev.move ?_
            refine Seq.gy rfl rfl rfl ?_
            refine Seq.p rfl Ev.move ?_
            refine Seq.gy rfl rfl rfl ?_
            refine Seq.p rfl (Ev.lenSl sl.sl_uint8 (hr := hr.r)) ?_
            refine Seq.gy rfl rfl rfl ?_
            refine Seq.p rfl Ev.lt ?_
            refine Seq.p rfl Ev.pickT ?_
            exact Seq.nil ⟨rfl, (by repeat (first | with_reducible exact Off.refl | refine Off.upd ?_ rfl | exact Off.mix | refine Off.mix2 ?_ rfl)), Look.here⟩
          refine Seq.nil ?_
          first | refine JC.c (ht := fun c72 => ?_) (hf := fun c72 => ?_) | refine JC.cb (ht := fun c72 => ?_) (hf := fun c72 => ?_)
          · -- then_t72
            simp only [Bool.and_eq_true, Bool.not_eq_true', decide_eq_true_eq] at c72
            refine JC.exit ?_ -- 1
            refine JC.reg ?_
            refine Seq.p rfl Ev.move ?_
            refine Seq.p rfl (by first | exact Ev.inc | exact Ev.add) ?_
            refine Seq.p rfl Ev.assign ?_
            refine Seq.nil ?_
            first | exact ⟨i + 1, [readerC b (.slice A62 h2.length c62), bytesC (.slice A62 h2.length c62) h2, strsC (.slice A2 L.length c2) L], (by repeat (first | exact Part.nil _ | refine Part.at (by repeat (first | exact At.z | apply At.s)) ?_)), ⟨A62, c62, A2, c2, h2, L, t, Has.mk (by repeat (first | refine Off.upd ?_ rfl | exact Off.mix | refine Off.mix2 ?_ rfl | exact Off.refl)) (allLook_cons (by repeat (first | exact Look.here | apply Look.there (hne := rfl) | exact Look.const | apply Look.mix rfl | exact Look.arg0 | apply Look.args | exact Look.func)) (allLook_cons (by repeat (first | exact Look.here | apply Look.there (hne := rfl) | exact Look.const | apply Look.mix rfl | exact Look.arg0 | apply Look.args | exact Look.func)) (allLook_cons (by repeat (first | exact Look.here | apply Look.there (hne := rfl) | exact Look.const | apply Look.mix rfl | exact Look.arg0 | apply Look.args | exact Look.func)) allLook_nil))), rfl, by omega, by omega, by omega, hB3, hTf, by omega⟩, by omega⟩ | exact ⟨i + 1, _, Part.refl _, ⟨A, c, A2, c2, h, L, t, Has.mk (by repeat (first | refine Off.upd ?_ rfl | exact Off.mix | refine Off.mix2 ?_ rfl | exact Off.refl)) (allLook_cons (by repeat (first | exact Look.here | apply Look.there (hne := rfl) | exact Look.const | apply Look.mix rfl | exact Look.arg0 | apply Look.args | exact Look.func)) (allLook_cons (by repeat (first | exact Look.here | apply Look.there (hne := rfl) | exact Look.const | apply Look.mix rfl | exact Look.arg0 | apply Look.args | exact Look.func)) (allLook_cons (by repeat (first | exact Look.here | apply Look.there (hne := rfl) | exact Look.const | apply Look.mix rfl | exact Look.arg0 | apply Look.args | exact Look.func)) allLook_nil))), rfl, by omega, by omega, by omega, hB4, hT, fun _ => ⟨by omega, hdn rfl⟩⟩, by omega⟩
          · -- else_t72
            refine JC.skip ?_
            refine JC.rs ?_
            refine Seq.p rfl Ev.assign ?_
            refine Seq.nil ?_
            refine JC.seq ?_
            refine JC.rs ?_
            refine Seq.p rfl Ev.move ?_
            refine Seq.callP rfl (fun w' hw => readerWaiting (h := h2) (box_cell hw (by repeat (first | exact At.z | apply At.s)) rfl) (RAt.up (RAt.own (enc := byteEnc) (xs := h2)) hw)) ?_
            refine Seq.p rfl (by first | exact Ev.inc | exact Ev.add) ?_
            refine Seq.p rfl Ev.assign ?_
            refine Seq.nil ?_
            refine JC.blk ?_
            refine JC.part (H' := [readerC b (.slice A62 h2.length c62), bytesC (.slice A62 h2.length c62) h2, strsC (.slice A2 L.length c2) L]) (by repeat (first | exact Part.nil _ | refine Part.at (by repeat (first | exact At.z | apply At.s)) ?_)) ?_
            refine JC.loop (α := Nat) (I := fun s e1 H1 => ∃ done A c A2 c2 h L, Has [6, 12, 13, 14, 15, 16, 17, 18, 19, 76, 77, 78, 79, 80, 81, 82, 83, 84, 85, 86, 87, 88, 89, 90, 91, 92, 93, 94, 95, 96, 97, 98, 99, 100, 101, 102, 103, 104, 105, 106, 107, 108] [(6, .slice A2 (List.length L) c2), (12, .bool done), (13, .int .i64 (s : Int))] _ e1 ∧ H1 = [readerC b (.slice A (List.length h) c), bytesC (.slice A h.length c) h, strsC (.slice A2 L.length c2) L] ∧ (done = false → h.length + 1 ≤ s) ∧ s ≤ 65537 ∧ h.length + L.length ≤ t ∧ isBytes h ∧ Told l t L h ∧ (done = true → (readF h).why = 20)) (μ := fun s => s) (h2.length + 1) ⟨false, A62, c62, A2, c2, h2, L, Has.mk Off.refl (allLook_cons (by repeat (first | exact Look.here | apply Look.there (hne := rfl) | exact Look.const | apply Look.mix rfl | exact Look.arg0 | apply Look.args | exact Look.func)) (allLook_cons (by repeat (first | exact Look.here | apply Look.there (hne := rfl) | exact Look.const | apply Look.mix rfl | exact Look.arg0 | apply Look.args | exact Look.func)) (allLook_cons (by repeat (first | exact Look.here | apply Look.there (hne := rfl) | exact Look.const | apply Look.mix rfl | exact Look.arg0 | apply Look.args | exact Look.func)) allLook_nil))), rfl, fun _ => Nat.le_refl _, by omega, by omega, hB3, hTf, fun hd => by cases hd⟩ ?_
            rintro s _ _ ⟨done, A, c, A2, c2, h, L, ⟨u2, rfl⟩, rfl, hsl, hs7, hhL, hB4, hT, hdn⟩; dsimp only [setL]
            refine JC.seq ?_
            refine JC.rs ?_
            refine Seq.p rfl Ev.move ?_
            refine Seq.p rfl Ev.ge ?_
            refine Seq.p rfl Ev.move ?_
            refine Seq.andG (D := [78, 79, 80, 81]) (d := 78) (t := 81) (k := 3) (hn := fun h78 => ?_) (hx := ?_)
            · repeat (first | refine Seq.gn rfl rfl rfl rfl ?_ | refine Seq.gu rfl rfl rfl ?_)
              refine Seq.p rfl Ev.pickF ?_
              exact Seq.nil ⟨rfl, (by repeat (first | with_reducible exact Off.refl | refine Off.upd ?_ rfl | exact Off.mix | refine Off.mix2 ?_ rfl)), Look.here⟩
            apply Exists.intro
            refine ⟨fun h78 => ?_, fun u81 => ?_⟩
            · try simp only [decide_eq_true_eq, decide_eq_false_iff_not, Bool.and_eq_true, Bool.or_eq_true, Bool.not_eq_true', Bool.not_eq_false', Bool.or_eq_false_iff, Bool.and_eq_false_imp] at h78
              refine Seq.gy rfl rfl rfl ?_
              refine Seq.p rfl Ev.move ?_
              refine Seq.gy rfl rfl rfl ?_
              refine Seq.p rfl Ev.not ?_
              refine Seq.p rfl Ev.pickT ?_
              exact Seq.nil ⟨rfl, (by repeat (first | with_reducible exact Off.refl | refine Off.upd ?_ rfl | exact Off.mix | refine Off.mix2 ?_ rfl)), Look.here⟩
            refine Seq.nil ?_
            first | refine JC.c (ht := fun c81 => ?_) (hf := fun c81 => ?_) | refine JC.cb (ht := fun c81 => ?_) (hf := fun c81 => ?_)
            · -- then_t81
              obtain rfl : done = false := by
                cases done with
                | false => rfl
                | true => simp at c81
              have hs1 := hsl rfl
              have hN := Nx.mk' hB4 (by omega)
              have hNl := fun hn => nextF_lt (h := h) hn
              have hNT := fun hn => hT.next (h := h) hn
              refine JC.skip ?_
              refine JC.seq ?_
              refine JC.blk ?_
              refine JC.rs ?_
              refine Seq.p rfl Ev.move ?_
              refine Seq.call rfl (fun w' hw => readerNext (hw.part (by repeat (first | exact Part.nil _ | refine Part.at (by repeat (first | exact At.z | apply At.s)) ?_))) hL hB4 (by omega)) (F := [_]) (by exact List.Perm.refl _) ?_
              rintro _ _ ⟨A86, c86, A87, c87, rfl, rfl⟩
              simp only [List.cons_append, List.nil_append]
              generalize nextF h = nx at hN hNl hNT ⊢
              have hnl := hN.len
              have hnt := hN.tags
              refine Seq.p rfl Ev.move ?_
              refine Seq.p rfl Ev.extract ?_
              refine Seq.p rfl Ev.extract ?_
              refine Seq.p rfl Ev.extract ?_
              refine Seq.p rfl Ev.extract ?_
              refine Seq.p rfl Ev.assign ?_
              refine Seq.p rfl Ev.assign ?_
              refine Seq.p rfl Ev.assign ?_
              refine Seq.p rfl Ev.assign ?_
              refine Seq.nil ?_
              refine JC.seq ?_
              refine JC.rs ?_
              refine Seq.p rfl Ev.move ?_
              refine Seq.nil ?_
              first | refine JC.c (ht := fun c91 => ?_) (hf := fun c91 => ?_) | refine JC.cb (ht := fun c91 => ?_) (hf := fun c91 => ?_)
              · -- then_t91
                obtain ⟨q1, q2, x, q3⟩ := hN.ok hB4 c91
                have q4 := hNT q1
                have q5 := hNl q1
                rw [c91, if_pos rfl, q3] at q4
                have q6 := encF_len nx.kind nx.tags
                rw [q3] at q6
                replace q6 : x.length ≤ 2048 := q6
                refine JC.rs ?_
                refine Seq.p rfl Ev.move ?_
                refine Seq.p rfl Ev.move ?_
                refine Seq.call rfl (fun w' hw => by have h9 := textEncode (kind := nx.kind) (RAt.up (RAt.own (enc := Tg.enc) (xs := nx.tags)) hw) q2 hN.sizes (encF_body q3) ((hL.up hw).laid); rw [q3] at h9; exact h9) (F := _) (by exact List.Perm.refl _) ?_
                rintro _ _ ⟨A95, c95, rfl, rfl⟩
                simp only [List.cons_append, List.nil_append]
                refine Seq.p rfl Ev.move ?_
                refine Seq.p rfl Ev.extract ?_
                refine Seq.p rfl Ev.extract ?_
                refine Seq.p rfl Ev.assign ?_
                refine Seq.p rfl Ev.assign ?_
                refine Seq.nil ?_
                refine JC.reg ?_
                refine Seq.p rfl Ev.move ?_
                refine Seq.p rfl Ev.move ?_
                refine Seq.p rfl (Ev.strOf (l := x) sl.sl_uint8 it.uint8 st.string (hr := RAt.own (enc := byteEnc) (xs := x))) ?_
                refine Seq.buildSlN [_] (hsl := sl.sl_string) (hz := z.string) (k := ?_); intro b101
                refine Seq.append (hsl := sl.sl_string) (he := el.string) (hH := At.s (At.s (At.s (At.s (At.s At.z))))) (hsrc := fun w' hw => Src.box (hl := by rfl) (hc := fun q u hu => hu) sl.sl_string At.z hw) (k := ?_); intro A102 c102
                rw [← strs_snoc]
                refine Seq.p rfl Ev.assign ?_
                refine Seq.nil ?_
                refine JC.reg ?_
                refine Seq.p rfl Ev.move ?_
                refine Seq.p rfl Ev.not ?_
                refine Seq.p rfl Ev.move ?_
                refine Seq.andG (D := [105, 106, 107, 108]) (d := 105) (t := 108) (k := 3) (hn := fun h105 => ?_) (hx := ?_)
                · repeat (first | refine Seq.gn rfl rfl rfl rfl ?_ | refine Seq.gu rfl rfl rfl ?_)
                  refine Seq.p rfl Ev.pickF ?_
                  exact Seq.nil ⟨rfl, (by repeat (first | with_reducible exact Off.refl | refine Off.upd ?_ rfl | exact Off.mix | refine Off.mix2 ?_ rfl)), Look.here⟩
                apply Exists.intro
                refine ⟨fun h105 => ?_, fun u108 => ?_⟩
                · try simp only [decide_eq_true_eq, decide_eq_false_iff_not, Bool.and_eq_true, Bool.or_eq_true, Bool.not_eq_true', Bool.not_eq_false', Bool.or_eq_false_iff, Bool.and_eq_false_imp] at h105
                  refine Seq.gy rfl rfl rfl ?_
                  refine Seq.p rfl Ev.move ?_
                  refine Seq.gy rfl rfl rfl ?_
                  refine Seq.p rfl Ev.eq ?_
                  refine Seq.p rfl Ev.pickT ?_
                  exact Seq.nil ⟨rfl, (by repeat (first | with_reducible exact Off.refl | refine Off.upd ?_ rfl | exact Off.mix | refine Off.mix2 ?_ rfl)), Look.here⟩
                refine Seq.p rfl Ev.assign ?_
                refine Seq.nil ?_
                refine JC.reg ?_
                refine Seq.p rfl Ev.move ?_
                refine Seq.p rfl (Ev.dec (m := s)) ?_
                refine Seq.p rfl Ev.assign ?_
                refine Seq.nil ?_
                first | exact ⟨s - 1, [readerC b (.slice A87 nx.held.length c87), bytesC (.slice A87 nx.held.length c87) nx.held, strsC (.slice A102 (L ++ [x]).length c102) (L ++ [x])], (by repeat (first | exact Part.nil _ | refine Part.at (by repeat (first | exact At.z | apply At.s)) ?_)), ⟨_, A87, c87, A102, c102, nx.held, L ++ [x], Has.mk (by repeat (first | refine Off.upd ?_ rfl | exact Off.mix | refine Off.mix2 ?_ rfl | exact Off.refl)) (allLook_cons (by rw [List.length_append]; exact (by repeat (first | exact Look.here | apply Look.there (hne := rfl) | exact Look.const | apply Look.mix rfl | exact Look.arg0 | apply Look.args | exact Look.func))) (allLook_cons (by repeat (first | exact Look.here | apply Look.there (hne := rfl) | exact Look.const | apply Look.mix rfl | exact Look.arg0 | apply Look.args | exact Look.func)) (allLook_cons (by repeat (first | exact Look.here | apply Look.there (hne := rfl) | exact Look.const | apply Look.mix rfl | exact Look.arg0 | apply Look.args | exact Look.func)) allLook_nil))), rfl, fun _ => by omega, by omega, by rw [List.length_append]; show _ + (_ + 1) ≤ _; omega, hN.bytes, q4, fun hd => by rw [c91] at hd; simp at hd⟩, by omega⟩ | exact ⟨s - 1, [readerC b (.slice A87 nx.held.length c87), bytesC (.slice A87 nx.held.length c87) nx.held, strsC (.slice A2 L.length c2) L], (by repeat (first | exact Part.nil _ | refine Part.at (by repeat (first | exact At.z | apply At.s)) ?_)), ⟨_, A87, c87, A2, c2, nx.held, L, Has.mk (by repeat (first | refine Off.upd ?_ rfl | exact Off.mix | refine Off.mix2 ?_ rfl | exact Off.refl)) (allLook_cons (by repeat (first | exact Look.here | apply Look.there (hne := rfl) | exact Look.const | apply Look.mix rfl | exact Look.arg0 | apply Look.args | exact Look.func)) (allLook_cons (by repeat (first | exact Look.here | apply Look.there (hne := rfl) | exact Look.const | apply Look.mix rfl | exact Look.arg0 | apply Look.args | exact Look.func)) (allLook_cons (by repeat (first | exact Look.here | apply Look.there (hne := rfl) | exact Look.const | apply Look.mix rfl | exact Look.arg0 | apply Look.args | exact Look.func)) allLook_nil))), rfl, q7, by omega, by omega, hN.bytes, q8, q9⟩, by omega⟩
              · -- else_t91
                have q7 : (!nx.ok && decide (nx.why = 0)) = false → nx.held.length + 1 ≤ s - 1 := fun hd => by
                  rw [c91] at hd
                  have hw : ¬ nx.why = 0 := by simpa using hd
                  have := hNl (fun hs => hw (hN.why hs).2.2)
                  omega
                have q8 : Told l t L nx.held := by
                  by_cases hs : (readF h).why = 20
                  · rw [(hN.why hs).1]; exact hT
                  · have := hNT hs
                    rw [c91, if_neg (by decide), List.append_nil] at this
                    exact this
                have q9 : (!nx.ok && decide (nx.why = 0)) = true → (readF nx.held).why = 20 := fun hd => by
                  rw [c91] at hd
                  have hw : nx.why = 0 := by simpa using hd
                  have hs := hN.no c91 hw
                  rw [(hN.why hs).1]
                  exact hs
                refine JC.skip ?_
                refine JC.reg ?_
                refine Seq.p rfl Ev.move ?_
                refine Seq.p rfl Ev.not ?_
                refine Seq.p rfl Ev.move ?_
                refine Seq.andG (D := [105, 106, 107, 108]) (d := 105) (t := 108) (k := 3) (hn := fun h105 => ?_) (hx := ?_)
                · repeat (first | refine Seq.gn rfl rfl rfl rfl ?_ | refine Seq.gu rfl rfl rfl ?_)
                  refine Seq.p rfl Ev.pickF ?_
                  exact Seq.nil ⟨rfl, (by repeat (first | with_reducible exact Off.refl | refine Off.upd ?_ rfl | exact Off.mix | refine Off.mix2 ?_ rfl)), Look.here⟩
                apply Exists.intro
                refine ⟨fun h105 => ?_, fun u108 => ?_⟩
                · try simp only [decide_eq_true_eq, decide_eq_false_iff_not, Bool.and_eq_true, Bool.or_eq_true, Bool.not_eq_true', Bool.not_eq_false', Bool.or_eq_false_iff, Bool.and_eq_false_imp] at h105
                  refine Seq.gy rfl rfl rfl ?_
                  refine Seq.p rfl Ev.move ?_
                  refine Seq.gy rfl rfl rfl ?_
                  refine Seq.p rfl Ev.eq ?_
                  refine Seq.p rfl Ev.pickT ?_
                  exact Seq.nil ⟨rfl, (by repeat (first | with_reducible exact Off.refl | refine Off.upd ?_ rfl | exact Off.mix | refine Off.mix2 ?_ rfl)), Look.here⟩
                refine Seq.p rfl Ev.assign ?_
                refine Seq.nil ?_
                refine JC.reg ?_
                refine Seq.p rfl Ev.move ?_
                refine Seq.p rfl (Ev.dec (m := s)) ?_
                refine Seq.p rfl Ev.assign ?_
                refine Seq.nil ?_
                first | exact ⟨s - 1, [readerC b (.slice A87 nx.held.length c87), bytesC (.slice A87 nx.held.length c87) nx.held, strsC (.slice A102 (L ++ [x]).length c102) (L ++ [x])], (by repeat (first | exact Part.nil _ | refine Part.at (by repeat (first | exact At.z | apply At.s)) ?_)), ⟨_, A87, c87, A102, c102, nx.held, L ++ [x], Has.mk (by repeat (first | refine Off.upd ?_ rfl | exact Off.mix | refine Off.mix2 ?_ rfl | exact Off.refl)) (allLook_cons (by rw [List.length_append]; exact (by repeat (first | exact Look.here | apply Look.there (hne := rfl) | exact Look.const | apply Look.mix rfl | exact Look.arg0 | apply Look.args | exact Look.func))) (allLook_cons (by repeat (first | exact Look.here | apply Look.there (hne := rfl) | exact Look.const | apply Look.mix rfl | exact Look.arg0 | apply Look.args | exact Look.func)) (allLook_cons (by repeat (first | exact Look.here | apply Look.there (hne := rfl) | exact Look.const | apply Look.mix rfl | exact Look.arg0 | apply Look.args | exact Look.func)) allLook_nil))), rfl, fun _ => by omega, by omega, by rw [List.length_append]; show _ + (_ + 1) ≤ _; omega, hN.bytes, q4, fun hd => by rw [c91] at hd; simp at hd⟩, by omega⟩ | exact ⟨s - 1, [readerC b (.slice A87 nx.held.length c87), bytesC (.slice A87 nx.held.length c87) nx.held, strsC (.slice A2 L.length c2) L], (by repeat (first | exact Part.nil _ | refine Part.at (by repeat (first | exact At.z | apply At.s)) ?_)), ⟨_, A87, c87, A2, c2, nx.held, L, Has.mk (by repeat (first | refine Off.upd ?_ rfl | exact Off.mix | refine Off.mix2 ?_ rfl | exact Off.refl)) (allLook_cons (by repeat (first | exact Look.here | apply Look.there (hne := rfl) | exact Look.const | apply Look.mix rfl | exact Look.arg0 | apply Look.args | exact Look.func)) (allLook_cons (by repeat (first | exact Look.here | apply Look.there (hne := rfl) | exact Look.const | apply Look.mix rfl | exact Look.arg0 | apply Look.args | exact Look.func)) (allLook_cons (by repeat (first | exact Look.here | apply Look.there (hne := rfl) | exact Look.const | apply Look.mix rfl | exact Look.arg0 | apply Look.args | exact Look.func)) allLook_nil))), rfl, q7, by omega, by omega, hN.bytes, q8, q9⟩, by omega⟩
            · -- else_t81
              obtain rfl : done = true := by
                cases done with
                | true => rfl
                | false => simp at c81
              refine JC.exit ?_ -- 2
              refine JC.rs ?_
              refine Seq.p rfl Ev.move ?_
              refine Seq.p rfl Ev.not ?_
              refine Seq.nil ?_
              first | refine JC.c (ht := fun c110 => ?_) (hf := fun c110 => ?_) | refine JC.cb (ht := fun c110 => ?_) (hf := fun c110 => ?_)
              · -- then_t110
                exfalso
                simp at c110
              · -- else_t110
                refine JC.skip ?_
                refine JC.reg ?_
                refine Seq.p rfl Ev.move ?_
                refine Seq.p rfl (by first | exact Ev.inc | exact Ev.add) ?_
                refine Seq.p rfl Ev.assign ?_
                refine Seq.nil ?_
                first | exact ⟨i + 1, [readerC b (.slice A62 h2.length c62), bytesC (.slice A62 h2.length c62) h2, strsC (.slice A2 L.length c2) L], (by repeat (first | exact Part.nil _ | refine Part.at (by repeat (first | exact At.z | apply At.s)) ?_)), ⟨A62, c62, A2, c2, h2, L, t, Has.mk (by repeat (first | refine Off.upd ?_ rfl | exact Off.mix | refine Off.mix2 ?_ rfl | exact Off.refl)) (allLook_cons (by repeat (first | exact Look.here | apply Look.there (hne := rfl) | exact Look.const | apply Look.mix rfl | exact Look.arg0 | apply Look.args | exact Look.func)) (allLook_cons (by repeat (first | exact Look.here | apply Look.there (hne := rfl) | exact Look.const | apply Look.mix rfl | exact Look.arg0 | apply Look.args | exact Look.func)) (allLook_cons (by repeat (first | exact Look.here | apply Look.there (hne := rfl) | exact Look.const | apply Look.mix rfl | exact Look.arg0 | apply Look.args | exact Look.func)) allLook_nil))), rfl, by omega, by omega, by omega, hB3, hTf, by omega⟩, by omega⟩ | exact ⟨i + 1, _, Part.refl _, ⟨A, c, A2, c2, h, L, t, Has.mk (by repeat (first | refine Off.upd ?_ rfl | exact Off.mix | refine Off.mix2 ?_ rfl | exact Off.refl)) (allLook_cons (by repeat (first | exact Look.here | apply Look.there (hne := rfl) | exact Look.const | apply Look.mix rfl | exact Look.arg0 | apply Look.args | exact Look.func)) (allLook_cons (by repeat (first | exact Look.here | apply Look.there (hne := rfl) | exact Look.const | apply Look.mix rfl | exact Look.arg0 | apply Look.args | exact Look.func)) (allLook_cons (by repeat (first | exact Look.here | apply Look.there (hne := rfl) | exact Look.const | apply Look.mix rfl | exact Look.arg0 | apply Look.args | exact Look.func)) allLook_nil))), rfl, by omega, by omega, by omega, hB4, hT, fun _ => ⟨by omega, hdn rfl⟩⟩, by omega⟩
    · -- else_t26
      obtain ⟨g1, g2⟩ := hend (by omega)
      subst g1
      have hfin := hT.all g2
      refine JC.exit ?_ -- 0
      refine JC.rs ?_
      refine Seq.p rfl Ev.move ?_
      refine Seq.p rfl Ev.assign ?_
      refine Seq.p rfl Ev.assign ?_
      refine Seq.nil ?_
      refine JC.ret ?_
      -- return 0
      show retQ _ _ _ _ _ _ _ _
      refine ret2 (H' := [strsC (.slice A2 L.length c2) L]) (hp := (by repeat (first | exact Part.nil _ | refine Part.at (by repeat (first | exact At.z | apply At.s)) ?_))) (hpost := ?_)
      rw [hO, hfin]
      exact ⟨A2, c2, rfl, rfl⟩
end Go.Rx
/- The law bourselaw03.TextPieces gives true. -/
namespace Go.Rx
open Go Go.RowKit Go.Lib Go.Proofs.YtcggppjpnepoiaaDoor
set_option linter.unusedVariables false
set_option linter.unusedSimpArgs false
theorem out_len : ∀ (h : List Int), (outF h).1.length ≤ h.length := by
  intro h
  generalize hd : h.length = d
  induction d using Nat.strongRecOn generalizing h with
  | _ d ih =>
    by_cases hs : (readF h).why = 20
    · rw [outF_short hs]; exact Nat.zero_le _
    · have hlt := nextF_lt hs
      have h1 := ih (nextF h).held.length (by omega) (nextF h).held rfl
      rw [outF_step hs]
      show ((if (nextF h).ok = true then [(encF (nextF h).kind (nextF h).tags).2] else []) ++ (outF (nextF h).held).1).length ≤ d
      rw [List.length_append]
      split
      · show 1 + _ ≤ d; omega
      · show 0 + _ ≤ d; omega
theorem out_one {kind : ByteArray} {xs : List Tg} {one : List Int} (h : encF kind xs = (0, one)) (hp : 0 < one.length) : (outF one).1 = [one] := by
  have h1 := read_enc h []
  rw [List.append_nil] at h1
  have hs : ¬ (readF one).why = 20 := by rw [h1]; show ¬ (0 : Int) = 20; decide
  have hz : (readF one).size ≠ 0 := by rw [h1]; show one.length ≠ 0; omega
  have hn := nextF_line hs hz
  rw [h1] at hn
  simp only [List.drop_length, decide_true] at hn
  rw [outF_step hs, hn, outF_short readF_nil]
  simp only [if_true, h, List.append_nil]
set_option maxHeartbeats 2000000 in
set_option maxRecDepth 100000 in
theorem lawPieces {w : World} {vb vc : Value} {l cs : List Int} {often : Bool} (hr : RSl byteEnc 1 w [] vb l) (hB : isBytes l) (hrc : RSl intEnc 1 w [] vc cs) (hL : Laid2 w) :
    Spec Go.Proofs.Tryd.prog 9 #[vb, vc, .bool often] w [] (fun u _ => u = .bool true) := by
  have hol := out_len l
  obtain ⟨O, hO⟩ : ∃ O, O = (outF l).1 := ⟨_, rfl⟩
  rw [← hO] at hol
  have hsm := hr.small
  obtain ⟨one, hone, hop⟩ := one_ok
  have hol2 := encF_len ⟨#[48]⟩ []
  rw [hone] at hol2
  replace hol2 : one.length ≤ 2048 := hol2
  have hBo : isBytes one := by rw [(encF_ok hone).2.2.2.2]; exact line_bytes _ _
  have hout := out_one hone hop
  refine Spec.enter (fn := Go.Proofs.Tryd.f9) (n := 84) [vb, vc, .bool often] Go.Proofs.Tryd.func9 (by kernel_rfl) rfl Go.Proofs.Tryd.ntmps9 Go.Proofs.Tryd.results9 rfl (Own.nil _) ?_
  refine JC.rs ?_
  refine Seq.p rfl Ev.assign ?_
  refine Seq.nil ?_
  refine JC.seq ?_
  refine JC.rs ?_
  refine Seq.p rfl Ev.move ?_
  refine Seq.p rfl (Ev.lenSl sl.sl_uint8 (hr := hr.r)) ?_
  refine Seq.p rfl Ev.gt ?_
  refine Seq.nil ?_
  first | refine JC.c (ht := fun c18 => ?_) (hf := fun c18 => ?_) | refine JC.cb (ht := fun c18 => ?_) (hf := fun c18 => ?_)
  · -- then_t18
    refine JC.rs ?_
    refine Seq.call rfl (fun w' hw => readerNew) (F := []) (by exact List.Perm.refl _) ?_
    rintro _ _ ⟨b, rfl, rfl⟩
    simp only [List.cons_append, List.nil_append]
    refine Seq.p rfl (Ev.neNilP und.p_text_Reader) ?_
    refine Seq.p rfl Ev.assign ?_
    refine Seq.nil ?_
    refine JC.ret ?_
    -- return 0
    show retQ _ _ _ _ _ _ _ _
    refine ret1 (hp := Part.nil _) (hpost := ?_)
    rfl
  · -- else_t18
    have hl : l.length ≤ 65536 := by omega
    refine JC.skip ?_
    refine JC.rs ?_
    refine Seq.p rfl Ev.move ?_
    refine Seq.call rfl (fun w' hw => by have h := lawLines (often := false) (hr.up hw) hB hl (RSl.empty intEnc 1 w' []) (hL.up hw); rw [← hO] at h; exact h) (F := _) (by exact List.Perm.refl _) ?_
    rintro _ _ ⟨A1, c1, rfl, rfl⟩
    simp only [List.cons_append, List.nil_append]
    refine Seq.p rfl Ev.move ?_
    refine Seq.p rfl Ev.extract ?_
    refine Seq.p rfl Ev.extract ?_
    refine Seq.p rfl Ev.assign ?_
    refine Seq.p rfl Ev.assign ?_
    refine Seq.nil ?_
    refine JC.rs ?_
    refine Seq.p rfl Ev.move ?_
    refine Seq.p rfl Ev.move ?_
    refine Seq.p rfl Ev.move ?_
    refine Seq.call rfl (fun w' hw => by have h := lawLines (often := often) (hr.up hw) hB hl (hrc.up hw) (hL.up hw); rw [← hO] at h; exact h) (F := _) (by exact List.Perm.refl _) ?_
    rintro _ _ ⟨A2, c2, rfl, rfl⟩
    simp only [List.cons_append, List.nil_append]
    refine Seq.p rfl Ev.move ?_
    refine Seq.p rfl Ev.extract ?_
    refine Seq.p rfl Ev.extract ?_
    refine Seq.p rfl Ev.assign ?_
    refine Seq.p rfl Ev.assign ?_
    refine Seq.nil ?_
    refine JC.seq ?_
    refine JC.rs ?_
    refine Seq.p rfl Ev.move ?_
    refine Seq.p rfl Ev.not ?_
    refine Seq.p rfl Ev.move ?_
    refine Seq.orG (D := [35, 36, 37, 38]) (d := 35) (t := 38) (k := 3) (hn := fun h35 => ?_) (hx := ?_)
    · repeat (first | refine Seq.gn rfl rfl rfl rfl ?_ | refine Seq.gu rfl rfl rfl ?_)
      refine Seq.p rfl Ev.pickT ?_
      exact Seq.nil ⟨rfl, (by repeat (first | with_reducible exact Off.refl | refine Off.upd ?_ rfl | exact Off.mix | refine Off.mix2 ?_ rfl)), Look.here⟩
    apply Exists.intro
    refine ⟨fun h35 => ?_, fun u38 => ?_⟩
    · try simp only [decide_eq_true_eq, decide_eq_false_iff_not, Bool.and_eq_true, Bool.or_eq_true, Bool.not_eq_true', Bool.not_eq_false', Bool.or_eq_false_iff, Bool.and_eq_false_imp] at h35
      refine Seq.gy rfl rfl rfl ?_
      refine Seq.p rfl Ev.move ?_
      refine Seq.gy rfl rfl rfl ?_
      refine Seq.p rfl Ev.not ?_
      refine Seq.p rfl Ev.pickF ?_
      exact Seq.nil ⟨rfl, (by repeat (first | with_reducible exact Off.refl | refine Off.upd ?_ rfl | exact Off.mix | refine Off.mix2 ?_ rfl)), Look.here⟩
    refine Seq.p rfl Ev.move ?_
    refine Seq.orG (D := [39, 40, 41, 42, 43, 44, 45]) (d := 39) (t := 45) (k := 6) (hn := fun h39 => ?_) (hx := ?_)
    · repeat (first | refine Seq.gn rfl rfl rfl rfl ?_ | refine Seq.gu rfl rfl rfl ?_)
      refine Seq.p rfl Ev.pickT ?_
      exact Seq.nil ⟨rfl, (by repeat (first | with_reducible exact Off.refl | refine Off.upd ?_ rfl | exact Off.mix | refine Off.mix2 ?_ rfl)), Look.here⟩
    apply Exists.intro
    refine ⟨fun h39 => ?_, fun u45 => ?_⟩
    · try simp only [decide_eq_true_eq, decide_eq_false_iff_not, Bool.and_eq_true, Bool.or_eq_true, Bool.not_eq_true', Bool.not_eq_false', Bool.or_eq_false_iff, Bool.and_eq_false_imp] at h39
      refine Seq.gy rfl rfl rfl ?_
      refine Seq.p rfl Ev.move ?_
      refine Seq.gy rfl rfl rfl ?_
      refine Seq.p rfl (Ev.lenSl sl.sl_string (hr := RAt.own (enc := lineEnc) (xs := O))) ?_
      refine Seq.gy rfl rfl rfl ?_
      refine Seq.p rfl Ev.move ?_
      refine Seq.gy rfl rfl rfl ?_
      refine Seq.p rfl (Ev.lenSl sl.sl_string (hr := RAt.own (enc := lineEnc) (xs := O))) ?_
      refine Seq.gy rfl rfl rfl ?_
      refine Seq.p rfl Ev.ne ?_
      refine Seq.p rfl Ev.pickF ?_
      exact Seq.nil ⟨rfl, (by repeat (first | with_reducible exact Off.refl | refine Off.upd ?_ rfl | exact Off.mix | refine Off.mix2 ?_ rfl)), Look.here⟩
    refine Seq.nil ?_
    first | refine JC.c (ht := fun c45 => ?_) (hf := fun c45 => ?_) | refine JC.cb (ht := fun c45 => ?_) (hf := fun c45 => ?_)
    · -- then_t45
      exfalso
      simp at c45
    · -- else_t45
      refine JC.skip ?_
      refine JC.seq ?_
      refine JC.rs ?_
      refine Seq.p rfl Ev.assign ?_
      refine Seq.nil ?_
      refine JC.blk ?_
      refine JC.loop (α := Nat) (I := fun i e1 H1 => Has [6, 11, 46, 47, 48, 49, 50, 51, 52, 53, 54, 55, 56, 57, 58, 59, 60] [(11, .int .i64 (i : Int))] _ e1 ∧ H1 = _ ∧ i ≤ O.length) (μ := fun i => O.length - i) 0 ⟨Has.mk Off.refl (allLook_cons (by repeat (first | exact Look.here | apply Look.there (hne := rfl) | exact Look.const | apply Look.mix rfl | exact Look.arg0 | apply Look.args | exact Look.func)) allLook_nil), rfl, by omega⟩ ?_
      rintro i _ _ ⟨⟨u, rfl⟩, rfl, hi⟩; dsimp only [setL]
      refine JC.seq ?_
      refine JC.rs ?_
      refine Seq.p rfl Ev.move ?_
      refine Seq.p rfl Ev.move ?_
      refine Seq.p rfl (Ev.lenSl sl.sl_string (hr := RAt.own (enc := lineEnc) (xs := O))) ?_
      refine Seq.p rfl Ev.lt ?_
      refine Seq.nil ?_
      first | refine JC.c (ht := fun c49 => ?_) (hf := fun c49 => ?_) | refine JC.cb (ht := fun c49 => ?_) (hf := fun c49 => ?_)
      · -- then_t49
        have hi2 : i < O.length := by omega
        refine JC.skip ?_
        refine JC.seq ?_
        refine JC.blk ?_
        refine JC.qs mixed (by kernel_rfl) ?_
        refine Qui.p rfl Ev.move ?_
        refine Qui.p rfl Ev.move ?_
        refine Qui.p rfl (Ev.iaN sl.sl_string (hr := RAt.own (enc := lineEnc) (xs := O))) ?_
        refine Qui.p rfl (Ev.ldE1 sc.string (hr := RAt.own (enc := lineEnc) (xs := O))) ?_
        refine Qui.p rfl Ev.move ?_
        refine Qui.p rfl Ev.move ?_
        refine Qui.p rfl (Ev.iaN sl.sl_string (hr := RAt.own (enc := lineEnc) (xs := O))) ?_
        refine Qui.p rfl (Ev.ldE1 sc.string (hr := RAt.own (enc := lineEnc) (xs := O))) ?_
        refine Qui.p rfl Ev.neStr ?_
        refine Qui.nil ?_
        first | refine JC.c (ht := fun c60 => ?_) (hf := fun c60 => ?_) | refine JC.cb (ht := fun c60 => ?_) (hf := fun c60 => ?_)
        · -- then_t60
          exfalso
          exact c60 rfl
        · -- else_t60
          refine JC.skip ?_
          refine JC.reg ?_
          refine Seq.p rfl Ev.move ?_
          refine Seq.p rfl (by first | exact Ev.inc | exact Ev.add) ?_
          refine Seq.p rfl Ev.assign ?_
          refine Seq.nil ?_
          exact ⟨i + 1, _, Part.refl _, ⟨Has.mk (by repeat (first | refine Off.upd ?_ rfl | exact Off.mix | refine Off.mix2 ?_ rfl | exact Off.refl)) (allLook_cons (by repeat (first | exact Look.here | apply Look.there (hne := rfl) | exact Look.const | apply Look.mix rfl | exact Look.arg0 | apply Look.args | exact Look.func)) allLook_nil), rfl, by omega⟩, by omega⟩
      · -- else_t49
        refine JC.exit ?_ -- 0
        refine JC.rs ?_
        refine Seq.call rfl (fun w' hw => by have h := textEncode (v := .slice none 0 0) (kind := ⟨#[48]⟩) (xs := []) (RSl.empty Tg.enc 2 w' []) (by decide) (fun t ht => by cases ht) one_body ((hL.up hw).laid); rw [hone] at h; exact h) (F := _) (by exact List.Perm.refl _) ?_
        rintro _ _ ⟨A62, c62, rfl, rfl⟩
        simp only [List.cons_append, List.nil_append]
        refine Seq.p rfl Ev.move ?_
        refine Seq.p rfl Ev.extract ?_
        refine Seq.p rfl Ev.extract ?_
        refine Seq.p rfl Ev.assign ?_
        refine Seq.p rfl Ev.assign ?_
        refine Seq.nil ?_
        refine JC.rs ?_
        refine Seq.p rfl Ev.move ?_
        refine Seq.call rfl (fun w' hw => by have h := lawLines (often := false) (RAt.up (RAt.own (enc := byteEnc) (xs := one)) hw) hBo (by omega) (RSl.empty intEnc 1 w' []) (hL.up hw); rw [hout] at h; exact h) (F := _) (by exact List.Perm.refl _) ?_
        rintro _ _ ⟨A67, c67, rfl, rfl⟩
        simp only [List.cons_append, List.nil_append]
        refine Seq.p rfl Ev.move ?_
        refine Seq.p rfl Ev.extract ?_
        refine Seq.p rfl Ev.extract ?_
        refine Seq.p rfl Ev.assign ?_
        refine Seq.p rfl Ev.assign ?_
        refine Seq.nil ?_
        refine JC.qs mixed (by kernel_rfl) ?_
        refine Qui.p rfl Ev.move ?_
        refine Qui.p rfl Ev.move ?_
        refine Qui.andG (D := [71, 72, 73, 74, 75]) (d := 71) (t := 75) (k := 4) (hn := fun h71 => ?_) (hx := ?_)
        · repeat (first | refine Qui.gn rfl rfl rfl rfl ?_ | refine Qui.gu rfl rfl rfl ?_)
          refine Qui.p rfl Ev.pickF ?_
          exact Qui.nil ⟨(by repeat (first | with_reducible exact Off.refl | refine Off.upd ?_ rfl | exact Off.mix | refine Off.mix2 ?_ rfl)), Look.here⟩
        apply Exists.intro
        refine ⟨fun h71 => ?_, fun u75 => ?_⟩
        · try simp only [decide_eq_true_eq, decide_eq_false_iff_not, Bool.and_eq_true, Bool.or_eq_true, Bool.not_eq_true', Bool.not_eq_false', Bool.or_eq_false_iff, Bool.and_eq_false_imp] at h71
          refine Qui.gy rfl rfl rfl ?_
          refine Qui.p rfl Ev.move ?_
          refine Qui.gy rfl rfl rfl ?_
          refine Qui.p rfl (Ev.lenSl sl.sl_string (hr := RAt.own (enc := lineEnc) (xs := [one]) (hs := by show 1 ≤ 4611686018427387904; decide))) ?_
          refine Qui.gy rfl rfl rfl ?_
          refine Qui.p rfl Ev.eq ?_
          refine Qui.p rfl Ev.pickT ?_
          exact Qui.nil ⟨(by repeat (first | with_reducible exact Off.refl | refine Off.upd ?_ rfl | exact Off.mix | refine Off.mix2 ?_ rfl)), Look.here⟩
        refine Qui.p rfl Ev.move ?_
        refine Qui.andG (D := [76, 77, 78, 79, 80, 81, 82, 83]) (d := 76) (t := 83) (k := 7) (hn := fun h76 => ?_) (hx := ?_)
        · repeat (first | refine Qui.gn rfl rfl rfl rfl ?_ | refine Qui.gu rfl rfl rfl ?_)
          refine Qui.p rfl Ev.pickF ?_
          exact Qui.nil ⟨(by repeat (first | with_reducible exact Off.refl | refine Off.upd ?_ rfl | exact Off.mix | refine Off.mix2 ?_ rfl)), Look.here⟩
        apply Exists.intro
        refine ⟨fun h76 => ?_, fun u83 => ?_⟩
        · try simp only [decide_eq_true_eq, decide_eq_false_iff_not, Bool.and_eq_true, Bool.or_eq_true, Bool.not_eq_true', Bool.not_eq_false', Bool.or_eq_false_iff, Bool.and_eq_false_imp] at h76
          refine Qui.gy rfl rfl rfl ?_
          refine Qui.p rfl Ev.move ?_
          refine Qui.gy rfl rfl rfl ?_
          refine Qui.p rfl (Ev.iaN sl.sl_string (i := 0) (hr := RAt.own (enc := lineEnc) (xs := [one]) (hs := by show 1 ≤ 4611686018427387904; decide)) (hi := by show 0 < 1; decide)) ?_
          refine Qui.gy rfl rfl rfl ?_
          refine Qui.p rfl (Ev.ldE1 sc.string (i := 0) (hr := RAt.own (enc := lineEnc) (xs := [one]) (hs := by show 1 ≤ 4611686018427387904; decide)) (hi := by show 0 < 1; decide)) ?_
          refine Qui.gy rfl rfl rfl ?_
          refine Qui.p rfl Ev.move ?_
          refine Qui.gy rfl rfl rfl ?_
          refine Qui.p rfl (Ev.strOf (l := one) sl.sl_uint8 it.uint8 st.string (hr := RAt.own (enc := byteEnc) (xs := one))) ?_
          refine Qui.gy rfl rfl rfl ?_
          refine Qui.p rfl Ev.eqStr ?_
          refine Qui.p rfl Ev.pickT ?_
          exact Qui.nil ⟨(by repeat (first | with_reducible exact Off.refl | refine Off.upd ?_ rfl | exact Off.mix | refine Off.mix2 ?_ rfl)), Look.here⟩
        refine Qui.p rfl Ev.assign ?_
        refine Qui.nil ?_
        refine JC.ret ?_
        -- return 1
        show retQ _ _ _ _ _ _ _ _
        refine ret1 (hp := Part.nil _) (hpost := ?_)
        simp
end Go.Rx
