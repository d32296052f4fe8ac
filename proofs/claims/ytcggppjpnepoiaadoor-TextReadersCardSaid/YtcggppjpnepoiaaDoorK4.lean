/- The row and the tied card of bourselaw03.TextReaders. -/
import Derived.Test.YtcggppjpnepoiaaDoorK0
import Derived.Test.YtcggppjpnepoiaaDoorX4
import Derived.Test.YtcggppjpnepoiaaDoorRxRows
import Derived.Test.YtcggppjpnepoiaaDoorTie
import Derived.Test.YtcggppjpnepoiaaDoorCards
import Derived.SevenTiedAt
import Derived.Below
import Derived.ChangeOld
import Derived.ShutString
import Derived.ChangeSame
import Derived.ChangeVars
import Derived.JoinedOf
namespace Go.Rx
open Go Go.RowKit
set_option linter.unusedVariables false
set_option maxRecDepth 100000 in
theorem open_pieces {H : Type} {enc : TypeId × Value → H} {W : World} {v : Value} {d : DataW H} {p : List MemPlace} (h : DataW.Trod enc Go.Proofs.Tryd.prog W 0 (fun _ => true) true 49 v d p) (hl : Light Go.Proofs.Tryd.prog 49 d) (hv : ∃ A n c, v = .slice A n c) :
    ∃ ps : List Pc, RSl Pc.enc 2 W [] v ps ∧ ∀ p ∈ ps, RSl byteEnc 1 W [] p.v p.l ∧ isBytes p.l ∧ p.l.length ≤ 140737488351232 := by
  obtain ⟨A, n, c, rfl⟩ := hv
  obtain ⟨fuel, hf⟩ := h
  obtain ⟨A2, c2, xs, h1, r1, l1, w1⟩ := open_rowsG (en := Pc.enc) (k := 2) (fun p => RSl byteEnc 1 W [] p.v p.l ∧ isBytes p.l ∧ p.l.length ≤ 140737488351232) Go.Proofs.Tryd.underlying49 ce.bourselaw03_Piece (by rw [byt.bourselaw03_Piece]; decide) (fun fuel row y hy hly hrl => by
    obtain ⟨ys, m, _, rfl, _, hyl, hg⟩ := DataW.trod_struct Go.Proofs.Tryd.underlying54 hy
    have hy2 : ys.length = 2 := hyl
    have g0 := hg 0 _ rfl
    have g1 := hg 1 _ rfl
    rw [List.getElem?_eq_getElem (by omega)] at g0 g1
    have l0 := light_field Go.Proofs.Tryd.underlying54 hly (i := 0) rfl (List.getElem?_eq_getElem (by omega))
    obtain ⟨A3, c3, l, e3, r3, b3, s3⟩ := open_bytesAt Go.Proofs.Tryd.underlying35 so.uint8 byt.uint8 g0 l0
    obtain ⟨k, e4, _⟩ := trod_num so.int g1
    obtain ⟨a, b, rfl⟩ : ∃ a b, row = [a, b] := by
      match row, hrl with
      | [a, b], _ => exact ⟨a, b, rfl⟩
    refine ⟨⟨.slice A3 l.length c3, l, k⟩, ?_, r3, b3, s3⟩
    have c0 : Go.Proofs.Tryd.prog.cellsOf 35 = 1 := ce.sl_uint8
    have c1 : Go.Proofs.Tryd.prog.cellsOf 3 = 1 := ce.int
    have e3' : ([a, b].drop 0).take (Go.Proofs.Tryd.prog.cellsOf 35) = [.slice A3 l.length c3] := e3
    have e4' : ([a, b].drop 1).take (Go.Proofs.Tryd.prog.cellsOf 3) = [.int .i64 k] := e4
    rw [c0] at e3'
    rw [c1] at e4'
    simp at e3' e4'
    rw [e3', e4']
    rfl) hf hl
  have e : (Value.slice A n c).cells.toList = [.slice A n c] := rfl
  rw [e] at h1
  rw [← (List.cons.inj h1).1] at r1
  exact ⟨xs, r1, w1⟩
end Go.Rx
namespace Go.Proofs.YtcggppjpnepoiaaDoor
open Go Go.RowKit Go.WideShapes Go.ChangeShapes Go.ChangeAt Go.Rx
set_option linter.unusedVariables false
theorem shaped_max {W : World} (h : W.ShapedOpen Go.Proofs.Tryd.prog) : ∃ m, W.cell? ⟨0, 0, none⟩ = some (.int .i64 m) :=
  cell_of_shapedOpen_int (t := 3) (zero := #[.int .i64 0]) h (of_decide_eq_true (by kernel_rfl)) (by kernel_rfl) rfl (by kernel_rfl) (by kernel_rfl) Go.Proofs.Tryd.underlying3
set_option maxRecDepth 100000 in
theorem textReaders_lifted (os : Os) (started : os.Started) (H : Type) (enc : TypeId × Value → H) :
    ReturnsInHanded {} Tryd.checked os 8 .any (fun w args => (Rows.textReadersSpec.pre enc Tryd.prog Tryd.f8 [] false w args ∧ laidMetH Tryd.prog theLaid w) ∧ sizedMet enc Tryd.prog Tryd.f8 (OpenSpec.ofChange Rows.textReadersSpec) false w args) (Rows.textReadersSpec.post enc Tryd.prog Tryd.f8 false true false false) := by
  refine Go.Rx.returnsInHanded_of_and_shaped (C := Tryd.checked) (X := fun w _ => laidMetH Tryd.prog theLaid w) (fun _ _ _ hh h => h.of_heap hh) Tryd.own started (by kernel_rfl) Tryd.func8
    (ChangeSpec.witness_at (enc := enc) (C := Tryd.checked) (os := os) (X := fun w _ => laidMetH Tryd.prog theLaid w) false (laidWorld os) #[.slice none 0 0] 8 rfl (by kernel_rfl) (by kernel_rfl) (by kernel_rfl) (by kernel_rfl) (by kernel_rfl) (laidWorld_met os _)) ?_
  intro W base args ds gs before hval0 hW hcnd hsz0 hLaid hShape _
  have hL : Laid W := laid_of_met (met_plain hLaid)
  have hL2 : Laid2 W := ⟨hL, shaped_max hShape⟩
  have hsz : (DataW.weightsEach Tryd.prog (Tryd.f8.params.toList ++ Rows.textReadersSpec.plain.varTypes Tryd.prog) (ds ++ gs)).all (· ≤ reachBytes) = true := hsz0
  have hval : ∀ (j : Nat) t v, Tryd.f8.params[j]? = some t → args[j]? = some v → Value.okWide Tryd.prog W .any base t v := hval0
  have hW' := hW
  obtain ⟨p, q, hA0, hV, rfl, hfz, hnd⟩ := hW
  have hA : DataW.TrodAll enc Tryd.prog W 0 (fun _ => true) true Tryd.f8.params.toList args.toList ds p := hA0
  rw [Tryd.params8] at hA hval hsz
  obtain ⟨v0, vs0, d0, ds0, p0, q0, hargs, rfl, rfl, h0, r0⟩ := trodAll_cons hA
  obtain ⟨rfl, rfl, rfl⟩ := trodAll_nil r0
  obtain rfl : args = #[v0] := by cases args; simp_all
  obtain ⟨rfl, rfl⟩ := trodVars_none hV
  have k0 := h0
  have lt0 : ∀ x ∈ p0, x.block < W.heap.size := by obtain ⟨m, hm⟩ := k0; exact DataW.trod_lt m _ _ _ hm
  have hv0 := hval 0 49 v0 rfl rfl
  have hl0 : Light Tryd.prog 49 d0 := light_arg hsz (j := 0) rfl rfl
  obtain ⟨ps, hr, hps⟩ := open_pieces h0 hl0 (by obtain ⟨A, n, c, rfl⟩ := okWide_slice Go.Proofs.Tryd.underlying49 hv0; exact ⟨A, n, c, rfl⟩)
  clear hA0 hval0 hsz0 hsz
  refine (lawReaders hr hps hL2).2.mono ?_
  rintro e W' ⟨_, H', rfl, hu, rfl⟩
  have bel := hu.below'
  exact ⟨_, rfl, _, _, _, [], _, [], hW', trodAll_mk1 (shut_bool Go.Proofs.Tryd.underlying4 _), (trodAll_cons_mk (Below.trod Tryd.laidOut (by kernel_rfl) (of_decide_eq_true (by kernel_rfl)) k0 bel lt0) trodAll_mk0), rfl, bel.frame _, fun h => by cases h⟩
theorem textReaders_row_holds : Rows.TextReadersSaid :=
  OpenClaim.holds_of_wide 8 Tryd.f8 rfl rfl rfl rfl rfl rfl rfl ⟨rfl, rfl, rfl, rfl, rfl⟩ rfl rfl rfl rfl rfl (by kernel_rfl) Tryd.func8 (by kernel_rfl)
    (of_decide_eq_true (by kernel_rfl)) (by unfold Func.isWrapper; first | (rw [if_pos (by decide +kernel)]; kernel_rfl) | (rw [if_neg (by decide +kernel)]; exact ⟨rfl, rfl⟩))
    (fun os started H enc _ => textReaders_lifted os started H enc)
theorem textReaders_holds : Rows.TextReadersCardSaid :=
  Claim7.holds_tied_plain_at .later [] [.data, .data, .data, .sentinel, .sentinel] true (true, "59f3d88583fead5222f396fefe64da747740ccdb0e75401cfe1952b3cb65e83c") true
    textReaders_row_holds (fun _ h => by cases h) (by kernel_rfl) (fun _ h => by cases h) textReaders_row_tie rfl ⟨rfl, rfl⟩ (by kernel_rfl) rfl
    (fun f fn hf hfn => by
      obtain rfl : f = 8 := Option.some.inj ((show Tryd.prog.funcNamed "bourse/bourselaw03.TextReaders" = some 8 by kernel_rfl).symm.trans hf) |>.symm
      obtain rfl : fn = Tryd.f8 := (Option.some.inj (Tryd.func8.symm.trans hfn)).symm
      refine ⟨by kernel_rfl, fun j t ht => ?_⟩
      rw [Tryd.params8] at ht
      have hm : t ∈ [49] := by
        have h2 := Array.mem_of_getElem? ht
        simpa using h2
      have hall : ∀ t ∈ [49], Tryd.prog.wantsStandIn t = false := by
        intro t ht
        simp only [List.mem_cons, List.not_mem_nil, or_false] at ht
        rcases ht with rfl <;> kernel_rfl
      exact hall t hm)
    (by kernel_rfl)
#print axioms textReaders_holds
end Go.Proofs.YtcggppjpnepoiaaDoor
