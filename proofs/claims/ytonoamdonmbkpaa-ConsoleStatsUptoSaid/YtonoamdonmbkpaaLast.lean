/- The row of the law. -/
import Derived.Test.YtonoamdonmbkpaaPart1
import Derived.Test.YtonoamdonmbkpaaPart3
import Derived.Test.YtonoamdonmbkpaaRxL2
import Derived.Deep.DeepHandedRow
import Derived.Deep.DeepWitnessRowRef
set_option linter.unusedVariables false
set_option linter.unusedSimpArgs false
/- The row of bourselaw27.ConsoleStats, the second form. -/
namespace Go.Proofs.Ytonoamdonmbkpaa
open Go Go.RowKit Go.WideShapes Go.ChangeShapes Go.ChangeAt Go.Rx
set_option linter.unusedVariables false
theorem bulk_sum {H : Type} (l : List (DataW H)) : (l.map Rows.uptoBulk).sum = Rows.uptoBulkAll l := by
  induction l with
  | nil => simp [Rows.uptoBulkAll]
  | cons x r ih => simp [Rows.uptoBulkAll, ih]
theorem bulk_pos {H : Type} (d : DataW H) : 1 ≤ Rows.uptoBulk d := by
  cases d with
  | lit x => cases x <;> simp [Rows.uptoBulk]
  | _ => simp [Rows.uptoBulk]
theorem bulk_slice {H : Type} {d : DataW H} {N : Nat} (hN : Rows.uptoBulk d ≤ N) : ∀ elems spare, d = .slice elems spare → (elems.map Rows.uptoBulk).sum ≤ N := by
  rintro elems spare rfl
  rw [bulk_sum]
  simp only [Rows.uptoBulk] at hN
  omega
theorem ones_sum {α : Type} (l : List α) : (l.map fun _ => 1).sum = l.length := by
  induction l with
  | nil => rfl
  | cons x r ih => rw [List.map_cons, List.sum_cons, ih, List.length_cons]; omega
theorem qty_in (e : Rx.Event) : Value.int .u64 e.qty ∈ e.enc := by simp [Event.enc]
set_option maxRecDepth 100000 in
theorem open_evs {H : Type} {enc : TypeId × Value → H} {W : World} {fuel : Nat} {cs : List Value} {x : DataW H × List MemPlace} (h : DataW.trod enc Go.Proofs.Try.prog W 0 (fun _ => true) true fuel 22 cs = some x) (hl : Light Go.Proofs.Try.prog 22 x.1) :
    ∃ (v : Value) (es : List Rx.Event), cs = [v] ∧ RSl Event.enc 13 W [] v es ∧ goodQ es ∧ es.length ≤ Rows.uptoBulk x.1 := by
  obtain ⟨A, c, es, e1, r1, _, w1, s1⟩ := open_rowsW (en := Event.enc) (k := 13) (fun e => 0 ≤ e.qty ∧ e.qty ≤ 18446744073709551615) (fun _ => 1) Rows.uptoBulk Go.Proofs.Try.underlying22 ce.api_Event (by rw [byt.api_Event]; decide) (fun fuel row y hy hly hrl => by
    obtain ⟨g1, g2⟩ := trod_plain 20 45 _ so.api_Event fuel _ _ hy
    refine ⟨Event.dec row, Event.enc_dec row g1, ?_, bulk_pos _⟩
    have h3 := qty_in (Event.dec row)
    rw [Event.enc_dec row g1] at h3
    exact u64_bounds (List.all_eq_true.1 g2 _ h3)) h hl
  refine ⟨_, es, e1, r1, w1, ?_⟩
  have := s1 (Rows.uptoBulk x.1) (bulk_slice (Nat.le_refl _))
  rwa [ones_sum] at this
set_option maxRecDepth 100000 in
theorem open_pces {H : Type} {enc : TypeId × Value → H} {W : World} {v : Value} {d : DataW H} {p : List MemPlace} (h : DataW.Trod enc Go.Proofs.Try.prog W 0 (fun _ => true) true 41 v d p) (hl : Light Go.Proofs.Try.prog 41 d) (hv : ∃ A n c, v = .slice A n c) :
    ∃ ps : List Pce, RSl Pce.enc 1 W [] v ps ∧ (∀ p ∈ ps, RSl Event.enc 13 W [] p.v p.es ∧ goodQ p.es) ∧ ∀ N, Rows.uptoBulk d ≤ N → (ps.map fun p => p.es.length).sum ≤ N := by
  obtain ⟨A, n, c, rfl⟩ := hv
  obtain ⟨fuel, hf⟩ := h
  obtain ⟨A2, c2, xs, h1, r1, l1, w1, w2⟩ := open_rowsW (en := Pce.enc) (k := 1) (fun p => RSl Event.enc 13 W [] p.v p.es ∧ goodQ p.es) (fun p => p.es.length) Rows.uptoBulk Go.Proofs.Try.underlying41 ce.sl_api_Event (by rw [byt.sl_api_Event]; decide) (fun fuel row y hy hly hrl => by
    obtain ⟨u, es, e1, e2, e3, e4⟩ := open_evs hy hly
    exact ⟨⟨u, es⟩, e1.symm, ⟨e2, e3⟩, e4⟩) hf hl
  have e : (Value.slice A n c).cells.toList = [.slice A n c] := rfl
  rw [e] at h1
  rw [← (List.cons.inj h1).1] at r1
  exact ⟨xs, r1, w1, fun N hN => w2 N (bulk_slice hN)⟩
theorem int_top {n : Int} (h : (Lit.int .i64 n).wf = true) : n ≤ 9223372036854775807 := by
  unfold Lit.wf at h
  rw [Bool.and_eq_true] at h
  exact of_decide_eq_true h.2
noncomputable def laidWorld (os : Os) : World := World.holding Go.Proofs.Try.prog os ⟨#[], #[], []⟩
theorem laidWorld_met (os : Os) (args : Array Value) : laidMetH Go.Proofs.Try.prog [] ((laidWorld os).forCall (fun _ _ => 0) ⟨#[], args, []⟩).memory :=
  show laidMet Go.Proofs.Try.prog [] _ from laidMet_of_run' 8 (by kernel_rfl) (by kernel_rfl)
theorem consoleStats_reads (os : Os) {H : Type} (enc : TypeId × Value → H) : ∃ places, DataW.whole enc Try.prog ((laidWorld os).forCall (fun _ _ => 0) ⟨#[], #[.slice none 0 0, .int .i64 0], []⟩).memory Try.f4.params.toList Rows.consoleStatsSpec.vars false (#[.slice none 0 0, .int .i64 0] : Array Value).toList 8 = some ([.nil, .lit (.int .i64 0)], [], places) :=
  ⟨[], by kernel_rfl⟩
set_option maxRecDepth 100000 in
theorem consoleStats_contract (H : Type) (enc : TypeId × Value → H) (W : World) (base : Nat) (args : Array Value) (ds gs : List (DataW H)) (before : List MemPlace)
    (hval0 : ∀ (j : Nat) t v, Try.f4.params[j]? = some t → args[j]? = some v → Value.okWide Try.prog W .any base t v)
    (hW : DataW.Whole enc Try.prog Try.f4.params.toList Rows.consoleStatsSpec.vars false W args.toList ds gs before) (hcond : Rows.uptoSmall H (ds ++ gs) = true)
    (hsz0 : (DataW.weightsEach Try.prog (Try.f4.params.toList ++ Rows.consoleStatsSpec.plain.varTypes Try.prog) (ds ++ gs)).all (· ≤ reachBytes) = true) (hLaid : laidMetH Try.prog [] W) (hShape : W.ShapedOpen Try.prog) :
    Calls Try.prog 4 args W fun e W' => ∃ v, e = .returned v ∧ Rows.consoleStatsSpec.post enc Try.prog Try.f4 false true false false W args v W' := by
  have hsz : (DataW.weightsEach Try.prog (Try.f4.params.toList ++ Rows.consoleStatsSpec.plain.varTypes Try.prog) (ds ++ gs)).all (· ≤ reachBytes) = true := hsz0
  have hval : ∀ (j : Nat) t v, Try.f4.params[j]? = some t → args[j]? = some v → Value.okWide Try.prog W .any base t v := hval0
  have hW' := hW
  obtain ⟨p, q, hA0, hV, rfl, hfz, hnd⟩ := hW
  have hA : DataW.TrodAll enc Try.prog W 0 (fun _ => true) true Try.f4.params.toList args.toList ds p := hA0
  rw [Try.params4] at hA hval hsz
  obtain ⟨v0, vs0, d0, ds0, p0, q0, hargs, rfl, rfl, h0, r0⟩ := trodAll_cons hA
  obtain ⟨v1, vs1, d1, ds1, p1, q1, rfl, rfl, rfl, h1, r1⟩ := trodAll_cons r0
  obtain ⟨rfl, rfl, rfl⟩ := trodAll_nil r1
  obtain rfl : args = #[v0, v1] := by cases args; simp_all
  obtain ⟨rfl, rfl⟩ := trodVars_none hV
  have k0 := h0
  have lt0 : ∀ x ∈ p0, x.block < W.heap.size := by obtain ⟨m, hm⟩ := k0; exact DataW.trod_lt m _ _ _ hm
  have hv0 := hval 0 41 v0 rfl rfl
  have hl0 : Light Try.prog 41 d0 := light_arg hsz (j := 0) rfl rfl
  have k1 := h1
  have lt1 : ∀ x ∈ p1, x.block < W.heap.size := by obtain ⟨m, hm⟩ := k1; exact DataW.trod_lt m _ _ _ hm
  have hv1 := hval 1 3 v1 rfl rfl
  have hl1 : Light Try.prog 3 d1 := light_arg hsz (j := 1) rfl rfl
  have hbk : Rows.uptoBulkAll ([d0, d1] ++ []) ≤ 1048576 := of_decide_eq_true hcond
  simp only [List.cons_append, List.nil_append, Rows.uptoBulkAll] at hbk
  obtain ⟨ps, hr, hps, hsum⟩ := open_pces h0 hl0 (by obtain ⟨A, n, c, rfl⟩ := okWide_slice Go.Proofs.Try.underlying41 hv0; exact ⟨A, n, c, rfl⟩)
  obtain ⟨each, rfl, rfl, rfl, w1⟩ := open_int Go.Proofs.Try.underlying3 hv1 h1
  clear hA0 hval0 hsz0 hsz
  refine (lawStats hr hps (hsum 1048576 (by omega)) (int_top w1)).2.mono ?_
  rintro e W' ⟨_, H', rfl, hu, rfl⟩
  have bel := hu.below'
  exact ⟨_, rfl, _, _, _, [], _, [], hW', trodAll_mk1 (shut_bool Go.Proofs.Try.underlying4 _), (trodAll_cons_mk (Below.trod Try.laidOut (by kernel_rfl) (of_decide_eq_true (by kernel_rfl)) k0 bel lt0) (trodAll_cons_mk (Below.trod Try.laidOut (by kernel_rfl) (of_decide_eq_true (by kernel_rfl)) k1 bel lt1) trodAll_mk0)), rfl, bel.frame _, fun h => by cases h⟩
set_option maxRecDepth 100000 in
theorem consoleStats_lifted (os : Os) (started : os.Started) (H : Type) (enc : TypeId × Value → H) (F : Stop.Interp) :
    ReturnsInHanded {} Try.checked os 4 .any ((Rows.OpenSpec.upto Rows.consoleStatsSpec).preRow enc Try.prog Try.f4 Rows.consoleStatsUptoRow.domain false Rows.consoleStatsUptoRow.laid) (((Rows.OpenSpec.upto Rows.consoleStatsSpec).at F).post enc Try.prog Try.f4 false true false false) := by
  obtain ⟨places, hx⟩ := consoleStats_reads os enc
  refine returnsInHanded_of_row (C := Try.checked) (s := Rows.OpenSpec.upto Rows.consoleStatsSpec) Try.own started (by kernel_rfl) Try.func4
    (witness_row_atRef (enc := enc) (C := Try.checked) false (laidWorld os) #[.slice none 0 0, .int .i64 0] rfl (by kernel_rfl) (by kernel_rfl) (by kernel_rfl)
      (OpenSpec.preRow_of_cond 8 hx (by kernel_rfl) (fun k hk => by cases hk; kernel_rfl) (by kernel_rfl) (laidWorld_met os _))) ?_
  intro W base args ds gs before hval hW _ hcond hsz hLaid hShape _
  exact consoleStats_contract H enc W base args ds gs before hval hW (hcond _ rfl) hsz hLaid hShape
theorem consoleStats_holds : Rows.ConsoleStatsUptoSaid :=
  OpenClaim.holds_of_cond 4 Try.f4 rfl rfl rfl rfl rfl rfl rfl ⟨rfl, rfl, rfl, rfl, rfl⟩ rfl rfl rfl rfl rfl (by kernel_rfl) Try.func4 (by kernel_rfl)
    (of_decide_eq_true (by kernel_rfl)) (by unfold Func.isWrapper; first | (rw [if_pos (by decide +kernel)]; kernel_rfl) | (rw [if_neg (by decide +kernel)]; exact ⟨rfl, rfl⟩))
    (fun os started H enc _ F => by rw [OpenClaim.pre_eq_preRow]; exact consoleStats_lifted os started H enc F)
#print axioms consoleStats_holds
end Go.Proofs.Ytonoamdonmbkpaa
