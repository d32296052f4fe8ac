/- Atoi and Itoa read and write what Natural reads; errors compared with nil. -/
import Derived.Test.YtcggppjpnepoiaaDoorQ1
import Derived.Test.YtcggppjpnepoiaaDoorJ2
import Derived.Lib.AtoiAllCases
import Derived.WideLaws
namespace Go.Rx
open Go Go.RowKit Go.Lib Go.Proofs.YtcggppjpnepoiaaDoor
set_option linter.unusedVariables false
set_option linter.unusedSimpArgs false
/-- An error, or none. -/
def ErrV (er : Value) (b : Bool) : Prop := (b = false ∧ er = .nilIface) ∨ (b = true ∧ ∃ t p, er = .iface t p)
section
variable {P : Program} {w0 : World} {Cs H : List Chunk} {e : Env} {ty tx ty' : TypeId} {x : Operand}
theorem Ev.neErr {er : Value} {b : Bool} (h : ErrV er b) (ht : P.underlying tx = some (.interface (P.methodsAt tx))) (hx : Look e x er := by repeat (first | exact Look.here | apply Look.there (hne := rfl) | exact Look.const | apply Look.mix rfl | exact Look.arg0 | apply Look.args | exact Look.func)) : Ev P w0 Cs H e (.binOp .neq tx x (.const .nilIface) ty') ty (.bool b) := by
  intro w _ d pos af g
  replace hx := hx.eq
  rcases h with ⟨rfl, rfl⟩ | ⟨rfl, t, p, rfl⟩
  · have e1 : ev e (.const .nilIface) = .nilIface := rfl
    have e2 : eqGuard .neq tx x (.const .nilIface) .nilIface .nilIface = pure () := by cases x <;> rfl
    have e3 : (binOp .neq tx .nilIface .nilIface).run P w = .ok (.bool false) w := run_neq_nil_nil (h := ht) ..
    simp [execOp, hx, e1, e2, e3]
  · have e1 : ev e (.const .nilIface) = .nilIface := rfl
    have e2 : eqGuard .neq tx x (.const .nilIface) (.iface t p) .nilIface = pure () := rfl
    have e3 : (binOp .neq tx (.iface t p) .nilIface).run P w = .ok (.bool true) w := run_neq_held_nil (h := ht) ..
    simp [execOp, hx, e1, e2, e3]
end
def atoiOk (s : ByteArray) : Option Int := match atoiAll s.data.toList with | .ok n => some n | _ => none
theorem textAtoi {w : World} {s : ByteArray} (hs : s.size ≤ 281474976710656) (hL : Laid w) : Spec Go.Proofs.Tryd.prog 76 #[.string s] w [] (fun u H' => ∃ n er b, u = .tuple #[.int .i64 n, er] ∧ H' = [] ∧ ErrV er b ∧ (atoiOk s = if b = true then none else some n) ∧ -9223372036854775808 ≤ n ∧ n ≤ 9223372036854775807) := by
  obtain ⟨⟨t1, p1, h1⟩, t2, p2, h2⟩ := And.intro hL.syn hL.rng
  refine ⟨⟨Go.Proofs.Tryd.f76, Go.Proofs.Tryd.func76, by kernel_rfl, rfl⟩, ?_⟩
  cases hq : atoiAll s.data.toList with
  | ok n =>
    refine (Go.Proofs.Tryd.strconv_Atoi_ok s (by omega) n hq w).mono ?_
    rintro e w' ⟨rfl, hw⟩
    have hb : Below w.heap.size w w' := by
      rcases hw with rfl | ⟨t, rfl⟩
      · exact Below.refl _ _
      · exact Lib.bytesWorld_below _ _ _
    exact ⟨_, [], rfl, upd_of_below hb, n, .nilIface, false, rfl, rfl, .inl ⟨rfl, rfl⟩, by unfold atoiOk; rw [hq]; rfl, atoiAll_bounds hq⟩
  | range =>
    refine (Go.Proofs.Tryd.strconv_Atoi_range_var s hs hq t2 p2 w h2).mono ?_
    rintro e w' ⟨N, rfl, -, -, hb⟩
    exact ⟨_, [], rfl, upd_of_below hb, _, _, true, rfl, rfl, .inr ⟨rfl, _, _, rfl⟩, by unfold atoiOk; rw [hq]; rfl, by unfold atoiSat; split <;> decide⟩
  | _ =>
    refine (Go.Proofs.Tryd.strconv_Atoi_syntax_var s hs (hq.trans rfl) t1 p1 w h1).mono ?_
    rintro e w' ⟨N, rfl, -, -, hb⟩
    exact ⟨_, [], rfl, upd_of_below hb, _, _, true, rfl, rfl, .inr ⟨rfl, _, _, rfl⟩, by unfold atoiOk; rw [hq]; rfl, by decide⟩
theorem dec_digits : ∀ (u : Nat), ∀ c ∈ decDigits u, 48 ≤ c.toNat ∧ c.toNat ≤ 57 := by
  intro u
  induction u using Nat.strongRecOn with
  | _ u ih =>
    have hone : ∀ d, d ≤ 9 → 48 ≤ (UInt8.ofNat (48 + d)).toNat ∧ (UInt8.ofNat (48 + d)).toNat ≤ 57 := by
      intro d hd
      rw [UInt8.toNat_ofNat']
      omega
    intro c hc
    by_cases h : u < 10
    · rw [decDigits_one h] at hc
      rw [List.mem_singleton.1 hc]
      exact hone u (by omega)
    · rw [decDigits, dif_neg h] at hc
      rcases List.mem_append.1 hc with hc | hc
      · exact ih (u / 10) (by omega) c hc
      · rw [List.mem_singleton.1 hc]
        exact hone _ (by omega)
theorem atoi_dec {k : Nat} (hk : k < 9223372036854775808) : atoiOk (decS k) = some (k : Int) := by
  unfold atoiOk
  rw [decS_list]
  have hd := dec_digits k
  have hp : parseMag (decDigits k) = .ok k := by
    have e64 : (2 : Nat) ^ 64 - 1 = 18446744073709551615 := by decide
    have hne : decDigits k ≠ [] := by
      intro h0
      have := decDigits_length k
      have h1 := nDigits_pos k
      rw [h0] at this
      simp at this
      omega
    rw [← parseUintB_64]
    unfold parseUintB
    rw [if_neg hne, e64, parse_dec k (by omega)]
  cases hl : decDigits k with
  | nil => rw [hl] at hp; cases hp
  | cons c r =>
    rw [hl] at hd hp
    have hc := hd c (List.mem_cons_self ..)
    rw [atoiAll_plain c r (by omega) (by omega), hp]
    simp only [signless]
    rw [if_neg (by omega)]
theorem atoi_nat {s : ByteArray} {n0 : Int} {be : Bool} (hat : atoiOk s = if be = true then none else some n0) (h45 : ∀ c ∈ s.data.toList, c.toNat ≠ 45) (hs : s.size ≤ 18) :
    natF s = if (be || decide ((⟨(itoa n0).toArray⟩ : ByteArray) ≠ s)) = true then none else some n0.toNat := by
  have key : ∀ k, natF s = some k → atoiOk s = some (k : Int) ∧ (⟨(itoa (k : Int)).toArray⟩ : ByteArray) = s := by
    intro k hk
    have h1 := natF_lt hk
    rw [natF_eq] at hk
    obtain ⟨h2, h3⟩ := numOf_some hk
    have h4 : k < 10 ^ 18 := Nat.lt_of_lt_of_le h1 (Nat.pow_le_pow_right (by decide) hs)
    have h5 : (10 : Nat) ^ 18 = 1000000000000000000 := by decide
    refine ⟨by rw [h2]; exact atoi_dec (by omega), ?_⟩
    rw [itoa_nonneg, h2]
    rfl
  cases be with
  | true =>
    simp only [if_true] at hat
    simp only [Bool.true_or, if_true]
    cases hk : natF s with
    | none => rfl
    | some k => rw [(key k hk).1] at hat; cases hat
  | false =>
    have hat2 : atoiOk s = some n0 := hat
    simp only [Bool.false_or, decide_eq_true_eq]
    by_cases he : (⟨(itoa n0).toArray⟩ : ByteArray) = s
    · rw [if_neg (fun h => h he)]
      have hpos : 0 ≤ n0 := by
        rcases Int.lt_or_le n0 0 with hneg | hpos
        · exfalso
          have h1 : itoa n0 = s.data.toList := by rw [← he]
          unfold itoa at h1
          rw [if_pos hneg] at h1
          have h2 := h45 45 (by rw [← h1]; exact List.mem_cons_self ..)
          exact h2 rfl
        · exact hpos
      have hb : n0 ≤ 9223372036854775807 := by
        unfold atoiOk at hat2
        cases hq : atoiAll s.data.toList with
        | ok m =>
          rw [hq] at hat2
          simp only [Option.some.injEq] at hat2
          have := atoiAll_bounds hq
          omega
        | _ => rw [hq] at hat2; cases hat2
      have hs2 : s = decS n0.toNat := by
        rw [← he]
        unfold decS itoa
        rw [if_neg (by omega)]
      rw [hs2, natF_eq]
      exact numOf_dec (by omega)
    · rw [if_pos he]
      cases hk : natF s with
      | none => rfl
      | some k =>
        obtain ⟨h1, h2⟩ := key k hk
        rw [h1] at hat2
        cases hat2
        exact absurd h2 he
end Go.Rx
