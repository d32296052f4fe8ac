/- The row of the law. -/
import Derived.Test.YtcggppjpnepoiaaDoorPart3
import Derived.Test.YtcggppjpnepoiaaDoorRxL2
import Derived.Test.YtcggppjpnepoiaaDoorTie
import Derived.Test.YtcggppjpnepoiaaDoorCards
import Derived.SevenTiedAt
import Derived.Below
import Derived.ChangeOld
import Derived.ShutString
import Derived.ChangeSame
import Derived.ChangeVars
import Derived.JoinedOf
import Derived.Deep.DeepHandedRow
import Derived.Deep.DeepWitnessRowRef
set_option linter.unusedVariables false
set_option linter.unusedSimpArgs false
/- From the reading of an argument to tags, with what they weigh; the row and the tied card of bourselaw03.TextBack, the second form. -/
namespace Go.Proofs.YtcggppjpnepoiaaDoor
open Go Go.RowKit Go.WideShapes Go.ChangeShapes Go.ChangeAt Go.Rx
set_option linter.unusedVariables false
theorem bulk_in {H : Type} {d : DataW H} {l : List (DataW H)} (h : d ∈ l) : Rows.uptoBulk d ≤ Rows.uptoBulkAll l := by
  induction l with
  | nil => cases h
  | cons x r ih =>
    simp only [Rows.uptoBulkAll]
    cases List.mem_cons.1 h with
    | inl e => subst e; omega
    | inr e => have := ih e; omega
theorem bulk_sum {H : Type} (l : List (DataW H)) : (l.map Rows.uptoBulk).sum = Rows.uptoBulkAll l := by
  induction l with
  | nil => simp [Rows.uptoBulkAll]
  | cons x r ih => simp [Rows.uptoBulkAll, ih]
def tagW (t : Tg) : Nat := t.value.size + 1
set_option maxRecDepth 100000 in
theorem open_tagsW {H : Type} {enc : TypeId × Value → H} {W : World} {v : Value} {d : DataW H} {p : List MemPlace} (h : DataW.Trod enc Go.Proofs.Tryd.prog W 0 (fun _ => true) true 22 v d p) (hl : Light Go.Proofs.Tryd.prog 22 d) (hv : ∃ A n c, v = .slice A n c) :
    ∃ xs : List Tg, RSl Tg.enc 2 W [] v xs ∧ (∀ t ∈ xs, t.tag ≤ 9223372036854775807) ∧ ∀ N, Rows.uptoBulk d ≤ N → (xs.map tagW).sum ≤ N := by
  obtain ⟨A, n, c, rfl⟩ := hv
  obtain ⟨fuel, hf⟩ := h
  obtain ⟨A2, c2, xs, h1, r1, l1, w1, w2⟩ := open_rowsW (en := Tg.enc) (k := 2) (fun t => t.tag ≤ 9223372036854775807) tagW Rows.uptoBulk Go.Proofs.Tryd.underlying22 ce.api_Tag (by rw [byt.api_Tag]; decide) (fun fuel row y hy hly hrl => by
    obtain ⟨ys, m, _, rfl, _, hyl, hg⟩ := DataW.trod_struct Go.Proofs.Tryd.underlying30 hy
    have hy2 : ys.length = 2 := hyl
    have g0 := hg 0 _ rfl
    have g1 := hg 1 _ rfl
    rw [List.getElem?_eq_getElem (by omega)] at g0 g1
    obtain ⟨k, e3, wk⟩ := trod_num so.int g0
    obtain ⟨s, e4, e5, _⟩ := DataW.trod_string Go.Proofs.Tryd.underlying9 g1
    obtain ⟨a, b, rfl⟩ : ∃ a b, row = [a, b] := by
      match row, hrl with
      | [a, b], _ => exact ⟨a, b, rfl⟩
    have c0 : Go.Proofs.Tryd.prog.cellsOf 3 = 1 := ce.int
    have c1 : Go.Proofs.Tryd.prog.cellsOf 9 = 1 := ce.string
    have e3' : ([a, b].drop 0).take (Go.Proofs.Tryd.prog.cellsOf 3) = [.int .i64 k] := e3
    have e4' : ([a, b].drop 1).take (Go.Proofs.Tryd.prog.cellsOf 9) = [.string s] := e4
    rw [c0] at e3'
    rw [c1] at e4'
    simp at e3' e4'
    refine ⟨⟨k, s⟩, by rw [e3', e4']; rfl, ?_, ?_⟩
    · unfold Lit.wf at wk
      rw [Bool.and_eq_true] at wk
      exact of_decide_eq_true wk.2
    · have h5 := bulk_in (d := (ys[1]).1) (l := ys.map (·.1)) (List.mem_map.2 ⟨ys[1], List.getElem_mem _, rfl⟩)
      rw [e5] at h5
      simp only [Rows.uptoBulk] at h5 ⊢
      have h6 : s.data.toList.length = s.size := by simp
      show s.size + 1 ≤ _
      omega) hf hl
  have e : (Value.slice A n c).cells.toList = [.slice A n c] := rfl
  rw [e] at h1
  rw [← (List.cons.inj h1).1] at r1
  refine ⟨xs, r1, w1, fun N hN => w2 N fun elems spare he => ?_⟩
  have he' : d = .slice elems spare := he
  rw [bulk_sum]
  rw [he'] at hN
  simp only [Rows.uptoBulk] at hN
  omega
theorem decL_twenty {n : Nat} (h : n ≤ 18446744073709551615) : (decL n).length ≤ 20 := by
  have h1 := natF_dec h
  unfold natF at h1
  split at h1
  · cases h1
  · rename_i hc
    rw [strOf_size] at hc
    omega
theorem body_w {kind : ByteArray} : ∀ {xs : List Tg}, (∀ t ∈ xs, t.tag ≤ 9223372036854775807) → (xs.flatMap fun t => fieldL t.tag.toNat t.value).length ≤ 22 * (xs.map tagW).sum
  | [], _ => by simp
  | t :: r, h => by
    have ih := body_w (kind := kind) (xs := r) (fun x hx => h x (List.mem_cons_of_mem _ hx))
    have h1 := h t (List.mem_cons_self ..)
    have h2 := decL_twenty (n := t.tag.toNat) (by omega)
    rw [List.flatMap_cons, List.length_append, field_len, List.map_cons, List.sum_cons]
    unfold tagW at ih ⊢
    omega
theorem body_small {kind : ByteArray} {xs : List Tg} {N : Nat} (h : ∀ t ∈ xs, t.tag ≤ 9223372036854775807) (hN : (xs.map tagW).sum ≤ N) (hk : kind.size ≤ N) (h2 : N ≤ 1048576) :
    (bodyL kind xs).length ≤ 1099511627776 ∧ xs.length ≤ 1099511627776 ∧ (∀ t ∈ xs, t.value.size ≤ 70368744177664) ∧ kind.size ≤ 70368744177664 := by
  have h3 := body_w (kind := kind) h
  have h4 := decL_twenty (n := 35) (by decide)
  have h5 : xs.length ≤ (xs.map tagW).sum := by
    clear h hN h3
    induction xs with
    | nil => simp
    | cons t r ih =>
      rw [List.map_cons, List.sum_cons, List.length_cons]
      unfold tagW at ih ⊢
      omega
  have h6 : ∀ t ∈ xs, t.value.size + 1 ≤ (xs.map tagW).sum := by
    clear h hN h3 h5
    induction xs with
    | nil => simp
    | cons t r ih =>
      intro x hx
      rw [List.map_cons, List.sum_cons]
      rcases List.mem_cons.1 hx with rfl | hx
      · unfold tagW; omega
      · have := ih x hx; omega
  refine ⟨?_, by omega, fun t ht => by have := h6 t ht; omega, by omega⟩
  unfold bodyL
  rw [List.length_append, field_len]
  omega
theorem bytes_small {H : Type} {enc : TypeId × Value → H} {W : World} {v : Value} {d : DataW H} {p : List MemPlace} (h : DataW.Trod enc Go.Proofs.Tryd.prog W 0 (fun _ => true) true 35 v d p) (hl : Light Go.Proofs.Tryd.prog 35 d) (hv : ∃ A n c, v = .slice A n c) (hb : Rows.uptoBulk d ≤ 1048576) :
    ∃ l : List Int, RSl byteEnc 1 W [] v l ∧ isBytes l ∧ l.length ≤ 70368744177664 := by
  obtain ⟨A, n, c, rfl⟩ := hv
  obtain ⟨fuel, hf⟩ := h
  obtain ⟨A2, c2, xs, h1, r1, l1, w1, w2⟩ := open_rowsW (en := byteEnc) (k := 1) (fun n => 0 ≤ n ∧ n ≤ 255) (fun _ => 1) Rows.uptoBulk Go.Proofs.Tryd.underlying35 ce.uint8 (by rw [byt.uint8]; decide) (fun fuel row y hy hly hrl => by
    obtain ⟨k, e3, wk⟩ := trod_num so.uint8 hy
    refine ⟨k, e3.symm, ?_, ?_⟩
    · unfold Lit.wf at wk
      rw [Bool.and_eq_true] at wk
      exact ⟨of_decide_eq_true wk.1, of_decide_eq_true wk.2⟩
    · cases y.1 with
      | lit l => cases l <;> simp [Rows.uptoBulk]
      | _ => simp [Rows.uptoBulk]) hf hl
  have e : (Value.slice A n c).cells.toList = [.slice A n c] := rfl
  rw [e] at h1
  rw [← (List.cons.inj h1).1] at r1
  have h3 := w2 1048576 (fun elems spare he => by
    have he' : d = .slice elems spare := he
    rw [bulk_sum]
    rw [he'] at hb
    simp only [Rows.uptoBulk] at hb
    omega)
  have h4 : (xs.map (fun _ => 1)).sum = xs.length := by
    clear h1 r1 l1 w1 w2 h3
    induction xs with
    | nil => rfl
    | cons x r ih => simp [ih]; omega
  exact ⟨xs, r1, w1, by omega⟩
theorem textBack_reads (os : Os) {H : Type} (enc : TypeId × Value → H) : ∃ places, DataW.whole enc Tryd.prog ((laidWorld os).forCall (fun _ _ => 0) ⟨#[], #[.string ⟨#[]⟩, .slice none 0 0, .slice none 0 0], []⟩).memory Tryd.f6.params.toList Rows.textBackSpec.vars false (#[.string ⟨#[]⟩, .slice none 0 0, .slice none 0 0] : Array Value).toList 8 = some ([.lit (.string []), .nil, .nil], [], places) :=
  ⟨[], by kernel_rfl⟩
set_option maxRecDepth 100000 in
theorem textBack_contract (H : Type) (enc : TypeId × Value → H) (W : World) (base : Nat) (args : Array Value) (ds gs : List (DataW H)) (before : List MemPlace)
    (hval0 : ∀ (j : Nat) t v, Tryd.f6.params[j]? = some t → args[j]? = some v → Value.okWide Tryd.prog W .any base t v)
    (hW : DataW.Whole enc Tryd.prog Tryd.f6.params.toList Rows.textBackSpec.vars false W args.toList ds gs before) (hcond : Rows.uptoSmall H (ds ++ gs) = true)
    (hsz0 : (DataW.weightsEach Tryd.prog (Tryd.f6.params.toList ++ Rows.textBackSpec.plain.varTypes Tryd.prog) (ds ++ gs)).all (· ≤ reachBytes) = true) (hLaid : laidMetH Tryd.prog theLaid W) (hShape : W.ShapedOpen Tryd.prog) :
    Calls Tryd.prog 6 args W fun e W' => ∃ v, e = .returned v ∧ Rows.textBackSpec.post enc Tryd.prog Tryd.f6 false true false false W args v W' := by
  have hL : Laid W := laid_of_met (met_plain hLaid)
  have hsz : (DataW.weightsEach Tryd.prog (Tryd.f6.params.toList ++ Rows.textBackSpec.plain.varTypes Tryd.prog) (ds ++ gs)).all (· ≤ reachBytes) = true := hsz0
  have hval : ∀ (j : Nat) t v, Tryd.f6.params[j]? = some t → args[j]? = some v → Value.okWide Tryd.prog W .any base t v := hval0
  have hW' := hW
  obtain ⟨p, q, hA0, hV, rfl, hfz, hnd⟩ := hW
  have hA : DataW.TrodAll enc Tryd.prog W 0 (fun _ => true) true Tryd.f6.params.toList args.toList ds p := hA0
  rw [Tryd.params6] at hA hval hsz
  obtain ⟨v0, vs0, d0, ds0, p0, q0, hargs, rfl, rfl, h0, r0⟩ := trodAll_cons hA
  obtain ⟨v1, vs1, d1, ds1, p1, q1, rfl, rfl, rfl, h1, r1⟩ := trodAll_cons r0
  obtain ⟨v2, vs2, d2, ds2, p2, q2, rfl, rfl, rfl, h2, r2⟩ := trodAll_cons r1
  obtain ⟨rfl, rfl, rfl⟩ := trodAll_nil r2
  obtain rfl : args = #[v0, v1, v2] := by cases args; simp_all
  obtain ⟨rfl, rfl⟩ := trodVars_none hV
  have k0 := h0
  have lt0 : ∀ x ∈ p0, x.block < W.heap.size := by obtain ⟨m, hm⟩ := k0; exact DataW.trod_lt m _ _ _ hm
  have hv0 := hval 0 9 v0 rfl rfl
  have hl0 : Light Tryd.prog 9 d0 := light_arg hsz (j := 0) rfl rfl
  have k1 := h1
  have lt1 : ∀ x ∈ p1, x.block < W.heap.size := by obtain ⟨m, hm⟩ := k1; exact DataW.trod_lt m _ _ _ hm
  have hv1 := hval 1 22 v1 rfl rfl
  have hl1 : Light Tryd.prog 22 d1 := light_arg hsz (j := 1) rfl rfl
  have k2 := h2
  have lt2 : ∀ x ∈ p2, x.block < W.heap.size := by obtain ⟨m, hm⟩ := k2; exact DataW.trod_lt m _ _ _ hm
  have hv2 := hval 2 35 v2 rfl rfl
  have hl2 : Light Tryd.prog 35 d2 := light_arg hsz (j := 2) rfl rfl
  have hbk : Rows.uptoBulkAll ([d0, d1, d2] ++ []) ≤ 1048576 := of_decide_eq_true hcond
  simp only [List.cons_append, List.nil_append, Rows.uptoBulkAll] at hbk
  obtain ⟨o, rfl, rfl, rfl, w0⟩ := ChangeMaps.open_string Go.Proofs.Tryd.underlying9 hv0 h0
  obtain ⟨xs, hr, htg, hsum⟩ := open_tagsW h1 hl1 (by obtain ⟨A, n, c, rfl⟩ := okWide_slice Go.Proofs.Tryd.underlying22 hv1; exact ⟨A, n, c, rfl⟩)
  have hko : o.data.toList.length = o.size := by simp
  simp only [Rows.uptoBulk] at hbk
  obtain ⟨l, hrb, hB, hln⟩ := bytes_small h2 hl2 (by obtain ⟨A, n, c, rfl⟩ := okWide_slice Go.Proofs.Tryd.underlying35 hv2; exact ⟨A, n, c, rfl⟩) (by omega)
  obtain ⟨q1, q2, q3, q4⟩ := body_small (kind := o) htg (hsum 1048576 (by omega)) (by omega) (Nat.le_refl _)
  clear hA0 hval0 hsz0 hsz
  refine (lawBack hr hrb hB hln q4 q3 q2 q1 hL).2.mono ?_
  rintro e W' ⟨_, H', rfl, hu, rfl⟩
  have bel := hu.below'
  exact ⟨_, rfl, _, _, _, [], _, [], hW', trodAll_mk1 (shut_bool Go.Proofs.Tryd.underlying4 _), (trodAll_cons_mk (Below.trod Tryd.laidOut (by kernel_rfl) (of_decide_eq_true (by kernel_rfl)) k0 bel lt0) (trodAll_cons_mk (Below.trod Tryd.laidOut (by kernel_rfl) (of_decide_eq_true (by kernel_rfl)) k1 bel lt1) (trodAll_cons_mk (Below.trod Tryd.laidOut (by kernel_rfl) (of_decide_eq_true (by kernel_rfl)) k2 bel lt2) trodAll_mk0))), rfl, bel.frame _, fun h => by cases h⟩
set_option maxRecDepth 100000 in
theorem textBack_lifted (os : Os) (started : os.Started) (H : Type) (enc : TypeId × Value → H) (F : Stop.Interp) :
    ReturnsInHanded {} Tryd.checked os 6 .any ((Rows.OpenSpec.upto Rows.textBackSpec).preRow enc Tryd.prog Tryd.f6 Rows.textBackUptoRow.domain false Rows.textBackUptoRow.laid) (((Rows.OpenSpec.upto Rows.textBackSpec).at F).post enc Tryd.prog Tryd.f6 false true false false) := by
  obtain ⟨places, hx⟩ := textBack_reads os enc
  refine returnsInHanded_of_row (C := Tryd.checked) (s := Rows.OpenSpec.upto Rows.textBackSpec) Tryd.own started (by kernel_rfl) Tryd.func6
    (witness_row_atRef (enc := enc) (C := Tryd.checked) false (laidWorld os) #[.string ⟨#[]⟩, .slice none 0 0, .slice none 0 0] rfl (by kernel_rfl) (by kernel_rfl) (by kernel_rfl)
      (OpenSpec.preRow_of_cond 8 hx (by kernel_rfl) (fun k hk => by cases hk; kernel_rfl) (by kernel_rfl) (laidWorld_met os _))) ?_
  intro W base args ds gs before hval hW _ hcond hsz hLaid hShape _
  exact textBack_contract H enc W base args ds gs before hval hW (hcond _ rfl) hsz hLaid hShape
theorem textBack_row_holds : Rows.TextBackUptoSaid :=
  OpenClaim.holds_of_cond 6 Tryd.f6 rfl rfl rfl rfl rfl rfl rfl ⟨rfl, rfl, rfl, rfl, rfl⟩ rfl rfl rfl rfl rfl (by kernel_rfl) Tryd.func6 (by kernel_rfl)
    (of_decide_eq_true (by kernel_rfl)) (by unfold Func.isWrapper; first | (rw [if_pos (by decide +kernel)]; kernel_rfl) | (rw [if_neg (by decide +kernel)]; exact ⟨rfl, rfl⟩))
    (fun os started H enc _ F => by rw [OpenClaim.pre_eq_preRow]; exact textBack_lifted os started H enc F)
theorem textBack_holds : Rows.TextBackUptoCardSaid :=
  Claim7.holds_tied_plain_at .later [] _ _ _ _
    textBack_row_holds (fun _ h => by cases h) (by kernel_rfl) (fun _ h => by cases h) textBackUpto_row_tie rfl ⟨rfl, rfl⟩ (by kernel_rfl) rfl
    (fun f fn hf hfn => by
      obtain rfl : f = 6 := Option.some.inj ((show Tryd.prog.funcNamed "bourse/bourselaw03.TextBack" = some 6 by kernel_rfl).symm.trans hf) |>.symm
      obtain rfl : fn = Tryd.f6 := (Option.some.inj (Tryd.func6.symm.trans hfn)).symm
      refine ⟨by kernel_rfl, fun j t ht => ?_⟩
      rw [Tryd.params6] at ht
      have hm : t ∈ [9, 22, 35] := by
        have h2 := Array.mem_of_getElem? ht
        simpa using h2
      have hall : ∀ t ∈ [9, 22, 35], Tryd.prog.wantsStandIn t = false := by
        intro t ht
        simp only [List.mem_cons, List.not_mem_nil, or_false] at ht
        rcases ht with rfl | rfl | rfl <;> kernel_rfl
      exact hall t hm)
    (by kernel_rfl)
#print axioms textBack_holds
end Go.Proofs.YtcggppjpnepoiaaDoor
