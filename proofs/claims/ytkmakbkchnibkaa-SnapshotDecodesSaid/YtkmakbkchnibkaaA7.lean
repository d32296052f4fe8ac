/- A part of the proof: the text A7. -/
import Derived.Test.YtkmakbkchnibkaaA6
import Derived.Test.YtkmakbkchnibkaaRxBook
namespace Go.Rx
open Go Go.RowKit Go.WideShapes
set_option linter.unusedVariables false
theorem open_book {H : Type} {enc : TypeId × Value → H} {W : World} {base : Nat} {v : Value} {d : DataW H} {p : List MemPlace} (hv : Value.okWide Go.Proofs.Try.prog W .any base 27 v) (h : DataW.Trod enc Go.Proofs.Try.prog W 0 (fun _ => true) true 27 v d p) (hl : Light Go.Proofs.Try.prog 27 d) :
    ∃ (b : Book) (vb vs : Value), v = .agg (bookV b vb vs).toArray ∧ RSl Resting.enc 7 W [] vb b.buys ∧ RSl Resting.enc 7 W [] vs b.sells ∧ b.buys.length * 56 ≤ 140737488351232 ∧ b.sells.length * 56 ≤ 140737488351232 ∧
      (∀ x ∈ b.buys, x.enc.all wfV = true) ∧ (∀ x ∈ b.sells, x.enc.all wfV = true) ∧ wfV (.int .i64 b.cap) = true ∧ wfV (.int .i64 b.meet) = true ∧ wfV (.int .u64 b.high) = true ∧ wfV (.int .u64 b.seq) = true := by
  obtain ⟨cs, rfl, hcs⟩ := okWide_struct Go.Proofs.Try.underlying27 hv
  obtain ⟨fuel, hf⟩ := h
  obtain ⟨xs, n, rfl, hx, hl1, hl2, hg⟩ := DataW.trod_struct Go.Proofs.Try.underlying27 hf
  obtain ⟨x0, x1, x2, x3, x4, rfl⟩ := list5 hl2
  have hl3 : cs.toList.length = 6 := by rw [Array.length_toList, hcs]; exact ce.api_Book
  obtain ⟨c0, c1, c2, c3, c4, c5, hc⟩ := list6 hl3
  have hd : d = .agg [x0.1, x1.1, x2.1, x3.1, x4.1] := by
    have := congrArg Prod.fst hx
    simpa using this
  subst hd
  have e : (Value.agg cs).cells.toList = [c0, c1, c2, c3, c4, c5] := hc
  rw [e] at hg
  have g0 : DataW.trod enc Go.Proofs.Try.prog W 0 (fun _ => true) true n 23 [c0, c1] = some x0 := field_cells (hg 0 _ rfl) ce.api_Config
  have g1 : DataW.trod enc Go.Proofs.Try.prog W 0 (fun _ => true) true n 24 [c2] = some x1 := field_cells (hg 1 _ rfl) ce.sl_api_Resting
  have g2 : DataW.trod enc Go.Proofs.Try.prog W 0 (fun _ => true) true n 24 [c3] = some x2 := field_cells (hg 2 _ rfl) ce.sl_api_Resting
  have g3 : DataW.trod enc Go.Proofs.Try.prog W 0 (fun _ => true) true n 25 [c4] = some x3 := field_cells (hg 3 _ rfl) ce.uint64
  have g4 : DataW.trod enc Go.Proofs.Try.prog W 0 (fun _ => true) true n 25 [c5] = some x4 := field_cells (hg 4 _ rfl) ce.uint64
  have p0 := trod_plain 20 _ _ so.api_Config n _ _ g0
  have p3 := trod_plain 20 _ _ so.uint64 n _ _ g3
  have p4 := trod_plain 20 _ _ so.uint64 n _ _ g4
  have li1 : Light Go.Proofs.Try.prog 24 x1.1 := light_field (xs := [x0, x1, x2, x3, x4]) Go.Proofs.Try.underlying27 hl (i := 1) rfl rfl
  have li2 : Light Go.Proofs.Try.prog 24 x2.1 := light_field (xs := [x0, x1, x2, x3, x4]) Go.Proofs.Try.underlying27 hl (i := 2) rfl rfl
  obtain ⟨A1, k1, xs1, h1, r1, l1, w1⟩ := open_rows (en := Resting.enc) (dec := Resting.dec) Go.Proofs.Try.underlying24 so.api_Resting (by rw [byt.api_Resting]; decide) Resting.enc_dec g1 li1
  obtain ⟨A2, k2, xs2, h2, r2, l2, w2⟩ := open_rows (en := Resting.enc) (dec := Resting.dec) Go.Proofs.Try.underlying24 so.api_Resting (by rw [byt.api_Resting]; decide) Resting.enc_dec g2 li2
  rw [byt.api_Resting] at l1 l2
  obtain ⟨c0, _, q0, i0, p0'⟩ := areSorts_cons p0.1
  obtain ⟨c1, _, q1, i1, p0'⟩ := areSorts_cons p0'
  obtain ⟨c4, _, q4, i4, _⟩ := areSorts_cons p3.1
  obtain ⟨c5, _, q5, i5, _⟩ := areSorts_cons p4.1
  obtain ⟨n0, rfl⟩ := isSort_int i0
  obtain ⟨n1, rfl⟩ := isSort_int i1
  obtain ⟨n4, rfl⟩ := isSort_int i4
  obtain ⟨n5, rfl⟩ := isSort_int i5
  simp at q0 q1 q4 q5 h1 h2
  obtain ⟨rfl, rfl⟩ := q0
  simp at q1
  obtain ⟨rfl, rfl⟩ := q1
  obtain ⟨rfl, rfl⟩ := q4
  obtain ⟨rfl, rfl⟩ := q5
  subst h1 h2
  refine ⟨⟨n0, n1, xs1, xs2, n4, n5⟩, _, _, ?_, r1, r2, l1, l2, fun x hx => (w1 x hx).2, fun x hx => (w2 x hx).2, ?_, ?_, ?_, ?_⟩
  · congr 1
    apply Array.ext'
    rw [hc]
    rfl
  · have := p0.2; simp at this; exact this.1
  · have := p0.2; simp at this; exact this.2
  · have := p3.2; simpa using this
  · have := p4.2; simpa using this
end Go.Rx
