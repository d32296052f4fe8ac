/- The row of the law. -/
import Derived.Test.YtcggppjpnepoiaaDoorPart3
import Derived.Test.YtcggppjpnepoiaaDoorPart4
import Derived.Test.YtcggppjpnepoiaaDoorRxL2
import Derived.Test.YtcggppjpnepoiaaDoorTie
import Derived.Test.YtcggppjpnepoiaaDoorCards
import Derived.SevenTiedAt
import Derived.Below
import Derived.ChangeOld
import Derived.ShutString
import Derived.ChangeSame
import Derived.ChangeVars
import Derived.JoinedOf
set_option linter.unusedVariables false
set_option linter.unusedSimpArgs false
/- The row and the tied card of bourselaw03.TextPieces. -/
namespace Go.Rx
open Go Go.RowKit
set_option linter.unusedVariables false
theorem open_bytesT {H : Type} {enc : TypeId × Value → H} {W : World} {v : Value} {d : DataW H} {p : List MemPlace} (h : DataW.Trod enc Go.Proofs.Tryd.prog W 0 (fun _ => true) true 35 v d p) (hl : Light Go.Proofs.Tryd.prog 35 d) (hv : ∃ A n c, v = .slice A n c) :
    ∃ l : List Int, RSl byteEnc 1 W [] v l ∧ isBytes l := by
  obtain ⟨A, n, c, rfl⟩ := hv
  obtain ⟨fuel, hf⟩ := h
  obtain ⟨A2, c2, xs, h1, r1, w1, _⟩ := open_bytesAt Go.Proofs.Tryd.underlying35 so.uint8 byt.uint8 hf hl
  have e : (Value.slice A n c).cells.toList = [.slice A n c] := rfl
  rw [e] at h1
  rw [← (List.cons.inj h1).1] at r1
  exact ⟨xs, r1, w1⟩
theorem open_intsT {H : Type} {enc : TypeId × Value → H} {W : World} {v : Value} {d : DataW H} {p : List MemPlace} (h : DataW.Trod enc Go.Proofs.Tryd.prog W 0 (fun _ => true) true 62 v d p) (hl : Light Go.Proofs.Tryd.prog 62 d) (hv : ∃ A n c, v = .slice A n c) :
    ∃ l : List Int, RSl intEnc 1 W [] v l := by
  obtain ⟨A, n, c, rfl⟩ := hv
  obtain ⟨fuel, hf⟩ := h
  obtain ⟨A2, c2, xs, h1, r1, _, _⟩ := open_rowsG (en := intEnc) (k := 1) (fun _ => True) Go.Proofs.Tryd.underlying62 ce.int (by rw [byt.int]; decide) (fun fuel row y hy hly hrl => by
    obtain ⟨k, e3, _⟩ := trod_num so.int hy
    exact ⟨k, e3.symm, trivial⟩) hf hl
  have e : (Value.slice A n c).cells.toList = [.slice A n c] := rfl
  rw [e] at h1
  rw [← (List.cons.inj h1).1] at r1
  exact ⟨xs, r1⟩
end Go.Rx
namespace Go.Proofs.YtcggppjpnepoiaaDoor
open Go Go.RowKit Go.WideShapes Go.ChangeShapes Go.ChangeAt Go.Rx
set_option linter.unusedVariables false
theorem shaped_max2 {W : World} (h : W.ShapedOpen Go.Proofs.Tryd.prog) : ∃ m, W.cell? ⟨0, 0, none⟩ = some (.int .i64 m) :=
  cell_of_shapedOpen_int (t := 3) (zero := #[.int .i64 0]) h (of_decide_eq_true (by kernel_rfl)) (by kernel_rfl) rfl (by kernel_rfl) (by kernel_rfl) Go.Proofs.Tryd.underlying3
set_option maxRecDepth 100000 in
theorem textPieces_lifted (os : Os) (started : os.Started) (H : Type) (enc : TypeId × Value → H) :
    ReturnsInHanded {} Tryd.checked os 9 .any (fun w args => (Rows.textPiecesSpec.pre enc Tryd.prog Tryd.f9 [] false w args ∧ laidMetH Tryd.prog theLaid w) ∧ sizedMet enc Tryd.prog Tryd.f9 (OpenSpec.ofChange Rows.textPiecesSpec) false w args) (Rows.textPiecesSpec.post enc Tryd.prog Tryd.f9 false true false false) := by
  refine Go.Rx.returnsInHanded_of_and_shaped (C := Tryd.checked) (X := fun w _ => laidMetH Tryd.prog theLaid w) (fun _ _ _ hh h => h.of_heap hh) Tryd.own started (by kernel_rfl) Tryd.func9
    (ChangeSpec.witness_at (enc := enc) (C := Tryd.checked) (os := os) (X := fun w _ => laidMetH Tryd.prog theLaid w) false (laidWorld os) #[.slice none 0 0, .slice none 0 0, .bool false] 8 rfl (by kernel_rfl) (by kernel_rfl) (by kernel_rfl) (by kernel_rfl) (by kernel_rfl) (laidWorld_met os _)) ?_
  intro W base args ds gs before hval0 hW hcnd hsz0 hLaid hShape _
  have hL : Laid W := laid_of_met (met_plain hLaid)
  have hL2 : Laid2 W := ⟨hL, shaped_max2 hShape⟩
  have hsz : (DataW.weightsEach Tryd.prog (Tryd.f9.params.toList ++ Rows.textPiecesSpec.plain.varTypes Tryd.prog) (ds ++ gs)).all (· ≤ reachBytes) = true := hsz0
  have hval : ∀ (j : Nat) t v, Tryd.f9.params[j]? = some t → args[j]? = some v → Value.okWide Tryd.prog W .any base t v := hval0
  have hW' := hW
  obtain ⟨p, q, hA0, hV, rfl, hfz, hnd⟩ := hW
  have hA : DataW.TrodAll enc Tryd.prog W 0 (fun _ => true) true Tryd.f9.params.toList args.toList ds p := hA0
  rw [Tryd.params9] at hA hval hsz
  obtain ⟨v0, vs0, d0, ds0, p0, q0, hargs, rfl, rfl, h0, r0⟩ := trodAll_cons hA
  obtain ⟨v1, vs1, d1, ds1, p1, q1, rfl, rfl, rfl, h1, r1⟩ := trodAll_cons r0
  obtain ⟨v2, vs2, d2, ds2, p2, q2, rfl, rfl, rfl, h2, r2⟩ := trodAll_cons r1
  obtain ⟨rfl, rfl, rfl⟩ := trodAll_nil r2
  obtain rfl : args = #[v0, v1, v2] := by cases args; simp_all
  obtain ⟨rfl, rfl⟩ := trodVars_none hV
  have k0 := h0
  have lt0 : ∀ x ∈ p0, x.block < W.heap.size := by obtain ⟨m, hm⟩ := k0; exact DataW.trod_lt m _ _ _ hm
  have hv0 := hval 0 35 v0 rfl rfl
  have hl0 : Light Tryd.prog 35 d0 := light_arg hsz (j := 0) rfl rfl
  have k1 := h1
  have lt1 : ∀ x ∈ p1, x.block < W.heap.size := by obtain ⟨m, hm⟩ := k1; exact DataW.trod_lt m _ _ _ hm
  have hv1 := hval 1 62 v1 rfl rfl
  have hl1 : Light Tryd.prog 62 d1 := light_arg hsz (j := 1) rfl rfl
  have k2 := h2
  have lt2 : ∀ x ∈ p2, x.block < W.heap.size := by obtain ⟨m, hm⟩ := k2; exact DataW.trod_lt m _ _ _ hm
  have hv2 := hval 2 4 v2 rfl rfl
  have hl2 : Light Tryd.prog 4 d2 := light_arg hsz (j := 2) rfl rfl
  obtain ⟨l, hr, hB⟩ := open_bytesT h0 hl0 (by obtain ⟨A, n, c, rfl⟩ := okWide_slice Go.Proofs.Tryd.underlying35 hv0; exact ⟨A, n, c, rfl⟩)
  obtain ⟨cs, hrc⟩ := open_intsT h1 hl1 (by obtain ⟨A, n, c, rfl⟩ := okWide_slice Go.Proofs.Tryd.underlying62 hv1; exact ⟨A, n, c, rfl⟩)
  obtain ⟨often, rfl, rfl, rfl⟩ := open_bool Go.Proofs.Tryd.underlying4 hv2 h2
  clear hA0 hval0 hsz0 hsz
  refine (lawPieces hr hB hrc hL2).2.mono ?_
  rintro e W' ⟨_, H', rfl, hu, rfl⟩
  have bel := hu.below'
  exact ⟨_, rfl, _, _, _, [], _, [], hW', trodAll_mk1 (shut_bool Go.Proofs.Tryd.underlying4 _), (trodAll_cons_mk (Below.trod Tryd.laidOut (by kernel_rfl) (of_decide_eq_true (by kernel_rfl)) k0 bel lt0) (trodAll_cons_mk (Below.trod Tryd.laidOut (by kernel_rfl) (of_decide_eq_true (by kernel_rfl)) k1 bel lt1) (trodAll_cons_mk (Below.trod Tryd.laidOut (by kernel_rfl) (of_decide_eq_true (by kernel_rfl)) k2 bel lt2) trodAll_mk0))), rfl, bel.frame _, fun h => by cases h⟩
theorem textPieces_row_holds : Rows.TextPiecesSaid :=
  OpenClaim.holds_of_wide 9 Tryd.f9 rfl rfl rfl rfl rfl rfl rfl ⟨rfl, rfl, rfl, rfl, rfl⟩ rfl rfl rfl rfl rfl (by kernel_rfl) Tryd.func9 (by kernel_rfl)
    (of_decide_eq_true (by kernel_rfl)) (by unfold Func.isWrapper; first | (rw [if_pos (by decide +kernel)]; kernel_rfl) | (rw [if_neg (by decide +kernel)]; exact ⟨rfl, rfl⟩))
    (fun os started H enc _ => textPieces_lifted os started H enc)
theorem textPieces_holds : Rows.TextPiecesCardSaid :=
  Claim7.holds_tied_plain_at .later [] [.data, .data, .data, .sentinel, .sentinel] true (true, "59f3d88583fead5222f396fefe64da747740ccdb0e75401cfe1952b3cb65e83c") true
    textPieces_row_holds (fun _ h => by cases h) (by kernel_rfl) (fun _ h => by cases h) textPieces_row_tie rfl ⟨rfl, rfl⟩ (by kernel_rfl) rfl
    (fun f fn hf hfn => by
      obtain rfl : f = 9 := Option.some.inj ((show Tryd.prog.funcNamed "bourse/bourselaw03.TextPieces" = some 9 by kernel_rfl).symm.trans hf) |>.symm
      obtain rfl : fn = Tryd.f9 := (Option.some.inj (Tryd.func9.symm.trans hfn)).symm
      refine ⟨by kernel_rfl, fun j t ht => ?_⟩
      rw [Tryd.params9] at ht
      have hm : t ∈ [35, 62, 4] := by
        have h2 := Array.mem_of_getElem? ht
        simpa using h2
      have hall : ∀ t ∈ [35, 62, 4], Tryd.prog.wantsStandIn t = false := by
        intro t ht
        simp only [List.mem_cons, List.not_mem_nil, or_false] at ht
        rcases ht with rfl | rfl | rfl <;> kernel_rfl
      exact hall t hm)
    (by kernel_rfl)
#print axioms textPieces_holds
end Go.Proofs.YtcggppjpnepoiaaDoor
