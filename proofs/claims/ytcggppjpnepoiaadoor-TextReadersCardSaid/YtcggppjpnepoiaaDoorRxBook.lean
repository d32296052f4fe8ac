/- Opening the plain data of the program's package api. -/
import Derived.Test.YtcggppjpnepoiaaDoorRxOpen
namespace Go.Rx
open Go Go.RowKit
set_option linter.unusedVariables false
set_option linter.unusedSimpArgs false
theorem areSorts_cons {s : Sort1} {l : List Sort1} {vs : List Value} (h : areSorts (s :: l) vs = true) : ∃ v r, vs = v :: r ∧ isSort s v = true ∧ areSorts l r = true := by
  cases vs with
  | nil => simp [areSorts] at h
  | cons v r =>
    simp [areSorts] at h
    exact ⟨v, r, rfl, h.1, h.2⟩
theorem areSorts_nil {vs : List Value} (h : areSorts [] vs = true) : vs = [] := by
  cases vs with
  | nil => rfl
  | cons v r => simp [areSorts] at h
theorem isSort_int {k : IntKind} {v : Value} (h : isSort (.int k) v = true) : ∃ n, v = .int k n := by
  cases v <;> simp [isSort] at h
  exact ⟨_, by rw [h]⟩
def numAt (cs : List Value) (i : Nat) : Int := match cs[i]? with | some (.int _ n) => n | _ => 0
def Resting.dec (cs : List Value) : Resting := ⟨numAt cs 0, numAt cs 1, numAt cs 2, numAt cs 3, numAt cs 4, numAt cs 5, numAt cs 6⟩
theorem Resting.enc_dec (cs : List Value) (h : areSorts [.int .u64, .int .u32, .int .i64, .int .i64, .int .u64, .int .u64, .int .u64] cs = true) : (Resting.dec cs).enc = cs := by
  obtain ⟨c0, r0, rfl, h0, h⟩ := areSorts_cons h
  obtain ⟨c1, r1, rfl, h1, h⟩ := areSorts_cons h
  obtain ⟨c2, r2, rfl, h2, h⟩ := areSorts_cons h
  obtain ⟨c3, r3, rfl, h3, h⟩ := areSorts_cons h
  obtain ⟨c4, r4, rfl, h4, h⟩ := areSorts_cons h
  obtain ⟨c5, r5, rfl, h5, h⟩ := areSorts_cons h
  obtain ⟨c6, r6, rfl, h6, h⟩ := areSorts_cons h
  obtain rfl := areSorts_nil h
  obtain ⟨n0, rfl⟩ := isSort_int h0
  obtain ⟨n1, rfl⟩ := isSort_int h1
  obtain ⟨n2, rfl⟩ := isSort_int h2
  obtain ⟨n3, rfl⟩ := isSort_int h3
  obtain ⟨n4, rfl⟩ := isSort_int h4
  obtain ⟨n5, rfl⟩ := isSort_int h5
  obtain ⟨n6, rfl⟩ := isSort_int h6
  rfl
theorem light_arg {H : Type} {P : Program} {ts : List TypeId} {ds : List (DataW H)} (h : (DataW.weightsEach P ts ds).all (· ≤ reachBytes) = true) {j : Nat} {t : TypeId} {d : DataW H} (ht : ts[j]? = some t) (hd : ds[j]? = some d) : Light P t d := by
  intro n hn
  have := List.all_eq_true.1 h n (DataW.weights_mem_each ht hd n hn)
  simpa using this
theorem field_cells {H : Type} {enc : TypeId × Value → H} {P : Program} {W : World} {sp : Nat → Bool} {held : Bool} {n off k : Nat} {t : TypeId} {cs : List Value} {o : Option (DataW H × List MemPlace)}
    (h : DataW.trod enc P W 0 sp held n t ((cs.drop off).take (P.cellsOf t)) = o) (hk : P.cellsOf t = k) : DataW.trod enc P W 0 sp held n t ((cs.drop off).take k) = o := hk ▸ h
theorem list5 {α : Type} {xs : List α} (h : xs.length = 5) : ∃ a b c d e, xs = [a, b, c, d, e] := by
  match xs, h with
  | [a, b, c, d, e], _ => exact ⟨a, b, c, d, e, rfl⟩
theorem list6 {α : Type} {xs : List α} (h : xs.length = 6) : ∃ a b c d e f, xs = [a, b, c, d, e, f] := by
  match xs, h with
  | [a, b, c, d, e, f], _ => exact ⟨a, b, c, d, e, f, rfl⟩
end Go.Rx
