/- A reader's calls: what it holds, Feed, where the next line may begin. -/
import Derived.Test.YtcggppjpnepoiaaDoorU6
import Derived.Shelf.Vars
namespace Go.Rx
open Go Go.RowKit Go.Lib Go.Proofs.YtcggppjpnepoiaaDoor
set_option linter.unusedVariables false
set_option linter.unusedSimpArgs false
def feedF (h b : List Int) : List Int × Int := if 65536 < h.length + b.length then (h, 2) else (h ++ b, 0)
/-- May a line begin at a place? -/
def footAt (h : List Int) (i : Nat) : Bool := decide (h[i]! = 56) && (decide (i + 1 = h.length) || decide (h[i + 1]! = 61))
def footF (h : List Int) (i : Nat) : Nat :=
  if i < h.length then (if footAt h i = true then i else footF h (i + 1)) else h.length
termination_by h.length - i
theorem footF_hit {h : List Int} {i : Nat} (hi : i < h.length) (hf : footAt h i = true) : footF h i = i := by rw [footF, if_pos hi, if_pos hf]
theorem footF_step {h : List Int} {i : Nat} (hi : i < h.length) (hf : footAt h i = false) : footF h i = footF h (i + 1) := by rw [footF, if_pos hi, if_neg (by rw [hf]; decide)]
theorem footF_end {h : List Int} {i : Nat} (hi : ¬ i < h.length) : footF h i = h.length := by rw [footF, if_neg hi]
theorem footF_le (h : List Int) : ∀ i, footF h i ≤ h.length := by
  intro i
  generalize hd : h.length - i = d
  induction d using Nat.strongRecOn generalizing i with
  | _ d ih =>
    by_cases hi : i < h.length
    · cases hf : footAt h i with
      | true => rw [footF_hit hi hf]; omega
      | false => rw [footF_step hi hf]; exact ih (h.length - (i + 1)) (by omega) (i + 1) rfl
    · rw [footF_end hi]
      exact Nat.le_refl _
theorem footF_ge {h : List Int} : ∀ {i}, i ≤ h.length → i ≤ footF h i := by
  intro i hi
  generalize hd : h.length - i = d
  induction d using Nat.strongRecOn generalizing i with
  | _ d ih =>
    by_cases h1 : i < h.length
    · cases hf : footAt h i with
      | true => rw [footF_hit h1 hf]; exact Nat.le_refl _
      | false => rw [footF_step h1 hf]; exact Nat.le_trans (Nat.le_succ _) (ih (h.length - (i + 1)) (by omega) (by omega) rfl)
    · rw [footF_end h1]
      exact hi
theorem footF_first {h : List Int} {i : Nat} : ∀ {j : Nat}, j ≤ i → i < h.length → footAt h i = true → (∀ k, j ≤ k → k < i → footAt h k = false) → footF h j = i := by
  intro j hj hi hf hn
  generalize hd : i - j = d
  induction d generalizing j with
  | zero => obtain rfl : j = i := by omega
            exact footF_hit hi hf
  | succ d ih =>
    rw [footF_step (by omega) (hn j (Nat.le_refl _) (by omega))]
    exact ih (by omega) (fun k h1 h2 => hn k (by omega) h2) (by omega)
theorem footF_none {h : List Int} : ∀ {j : Nat}, j ≤ h.length → (∀ k, j ≤ k → k < h.length → footAt h k = false) → footF h j = h.length := by
  intro j hj hn
  generalize hd : h.length - j = d
  induction d generalizing j with
  | zero => exact footF_end (by omega)
  | succ d ih =>
    rw [footF_step (by omega) (hn j (Nat.le_refl _) (by omega))]
    exact ih (by omega) (fun k h1 h2 => hn k (by omega) h2) (by omega)
structure NextA where
  held : List Int
  kind : ByteArray
  tags : List Tg
  ok : Bool
  why : Int
def nextF (h : List Int) : NextA :=
  if (readF h).why = 20 then ⟨h, ⟨#[]⟩, [], false, 0⟩
  else if (readF h).size ≠ 0 then ⟨h.drop (readF h).size, (readF h).kind, (readF h).tags, decide ((readF h).why = 0), (readF h).why⟩
  else ⟨h.drop (footF h 1), ⟨#[]⟩, [], false, (readF h).why⟩
abbrev readerC (b : Nat) (v : Value) : Chunk := .box b 88 [v]
/-- Laid, and the library's own number is there. -/
structure Laid2 (w : World) : Prop where
  laid : Laid w
  max : ∃ m, w.cell? ⟨0, 0, none⟩ = some (.int .i64 m)
theorem Laid2.up {w0 w : World} {H : List Chunk} (h : Laid2 w0) (hu : Upd w0 w [] H) : Laid2 w :=
  ⟨h.laid.upd hu, h.max.imp fun m hm => Cell.up (Cs := []) ⟨hm, by simp⟩ hu⟩
/-! the bytes '8=' -/
def eightL : List Int := [56, 61]
theorem footAt_occ {h : List Int} {k : Nat} (hk : k + 1 < h.length) : footAt h k = (decide (h[k]! = 56) && decide (h[k + 1]! = 61)) := by
  unfold footAt
  rw [show decide (k + 1 = h.length) = false from decide_eq_false (by omega), Bool.false_or]
theorem occAt_foot {h : List Int} (hB : isBytes h) {k : Nat} : occAt (Lib.bytesOf h) (Lib.bytesOf eightL) k = (decide (k + 1 < h.length) && (decide (h[k]! = 56) && decide (h[k + 1]! = 61))) := by
  unfold occAt
  have e : (Lib.bytesOf h).drop k = Lib.bytesOf (h.drop k) := by simp [Lib.bytesOf]
  rw [e]
  have e2 : Lib.bytesOf eightL = [56, 61] := rfl
  rw [e2]
  have hb : ∀ n : Int, 0 ≤ n ∧ n ≤ 255 → ∀ c : Nat, c ≤ 255 → (((UInt8.ofNat c) == UInt8.ofNat n.toNat) = decide (n = (c : Int))) := by
    intro n hn c hc
    rw [Bool.eq_iff_iff, beq_iff_eq, decide_eq_true_eq]
    constructor
    · intro h
      have := congrArg UInt8.toNat h
      rw [UInt8.toNat_ofNat', UInt8.toNat_ofNat'] at this
      omega
    · intro h
      rw [h, Int.toNat_natCast]
  by_cases h1 : k + 1 < h.length
  · have hd : h.drop k = h[k]! :: h[k + 1]! :: h.drop (k + 2) := by
      rw [List.drop_eq_getElem_cons (by omega), List.drop_eq_getElem_cons h1, getElem!_pos h k (by omega), getElem!_pos h (k + 1) h1]
    rw [hd]
    have g1 := isBytes_get hB (i := k) (by omega)
    have g2 := isBytes_get hB (i := k + 1) h1
    show ((56 : UInt8) == UInt8.ofNat (h[k]!).toNat && ((61 : UInt8) == UInt8.ofNat (h[k + 1]!).toNat && true)) = _
    have e3 := hb h[k]! g1 56 (by decide)
    have e4 := hb h[k + 1]! g2 61 (by decide)
    rw [decide_eq_true h1, Bool.true_and, Bool.and_true]
    have e5 : ((56 : UInt8) == UInt8.ofNat (h[k]!).toNat) = decide (h[k]! = 56) := e3
    have e6 : ((61 : UInt8) == UInt8.ofNat (h[k + 1]!).toNat) = decide (h[k + 1]! = 61) := e4
    rw [e5, e6]
  · rw [decide_eq_false h1, Bool.false_and]
    by_cases h2 : k < h.length
    · have hd : h.drop k = [h[k]!] := by
        rw [List.drop_eq_getElem_cons h2, List.drop_eq_nil_of_le (by omega), getElem!_pos h k h2]
      rw [hd]
      show ((56 : UInt8) == UInt8.ofNat (h[k]!).toNat && false) = false
      rw [Bool.and_false]
    · rw [List.drop_eq_nil_of_le (by omega)]
      rfl
theorem index_some {s sub : List UInt8} {i : Nat} (h : Lib.index s sub = (i : Int)) : i ≤ s.length ∧ occAt s sub i = true ∧ ∀ j < i, occAt s sub j = false := by
  induction s generalizing i with
  | nil =>
    unfold Lib.index at h
    split at h
    · rename_i he
      have : i = 0 := by omega
      subst this
      have : sub = [] := by simpa using he
      subst this
      exact ⟨Nat.le_refl _, rfl, fun j hj => by omega⟩
    · omega
  | cons b l ih =>
    unfold Lib.index at h
    split at h
    · rename_i hp
      have : i = 0 := by omega
      subst this
      exact ⟨Nat.zero_le _, hp, fun j hj => by omega⟩
    · rename_i hp
      split at h
      · omega
      · have hge := Lib.index_ge l sub
        have hne : Lib.index l sub ≠ -1 := by
          rename_i hq
          simpa using hq
        obtain ⟨j, rfl⟩ : ∃ j, i = j + 1 := ⟨i - 1, by omega⟩
        obtain ⟨h1, h2, h3⟩ := ih (i := j) (by omega)
        refine ⟨by simp; omega, h2, fun k hk => ?_⟩
        cases k with
        | zero => exact Bool.eq_false_iff.2 hp
        | succ k => exact h3 k (by omega)
theorem index_none {s sub : List UInt8} (h : Lib.index s sub = -1) : ∀ j, occAt s sub j = false := by
  induction s with
  | nil =>
    unfold Lib.index at h
    split at h
    · omega
    · rename_i he
      intro j
      unfold occAt
      rw [List.drop_nil]
      cases sub with
      | nil => simp at he
      | cons c r => rfl
  | cons b l ih =>
    unfold Lib.index at h
    split at h
    · omega
    · rename_i hp
      have hge := Lib.index_ge l sub
      split at h
      · rename_i hq
        have hq' : Lib.index l sub = -1 := by simpa using hq
        intro j
        cases j with
        | zero => exact Bool.eq_false_iff.2 hp
        | succ j => exact ih hq' j
      · omega
/-- What the program's 'foot' reckons is where the next line may begin. -/
theorem foot_some {h : List Int} (hB : isBytes h) {i : Nat} (hne : h ≠ []) (hi : Lib.index (Lib.bytesOf (h.drop 1)) (Lib.bytesOf eightL) = (i : Int)) : footF h 1 = 1 + i := by
  obtain ⟨h1, h2, h3⟩ := index_some hi
  have hlen : 0 < h.length := List.length_pos_iff.2 hne
  have key : ∀ k, occAt (Lib.bytesOf (h.drop 1)) (Lib.bytesOf eightL) k = (decide (1 + k + 1 < h.length) && (decide (h[1 + k]! = 56) && decide (h[1 + k + 1]! = 61))) := by
    intro k
    rw [occAt_foot (isBytes_drop hB)]
    by_cases hk : k + 1 < (h.drop 1).length
    · rw [get_drop (by rw [List.length_drop] at hk; omega), get_drop (by rw [List.length_drop] at hk; omega), decide_eq_true hk, decide_eq_true (show 1 + k + 1 < h.length by rw [List.length_drop] at hk; omega)]
      rw [show 1 + (k + 1) = 1 + k + 1 by omega]
    · rw [decide_eq_false hk, decide_eq_false (show ¬ 1 + k + 1 < h.length by rw [List.length_drop] at hk; omega), Bool.false_and, Bool.false_and]
  rw [key] at h2
  have hlt : 1 + i + 1 < h.length := by
    rw [Bool.and_eq_true, decide_eq_true_eq] at h2
    exact h2.1
  refine footF_first (by omega) (by omega) ?_ ?_
  · rw [footAt_occ hlt]
    rw [Bool.and_eq_true] at h2
    exact h2.2
  · intro k hk1 hk2
    have := h3 (k - 1) (by omega)
    rw [key, show 1 + (k - 1) = k by omega, decide_eq_true (by omega : k + 1 < h.length), Bool.true_and] at this
    rw [footAt_occ (by omega)]
    exact this
theorem foot_miss {h : List Int} (hB : isBytes h) (hne : h ≠ []) (hi : Lib.index (Lib.bytesOf (h.drop 1)) (Lib.bytesOf eightL) = -1) :
    footF h 1 = if h[h.length - 1]! = 56 ∧ 1 < h.length then h.length - 1 else h.length := by
  have h3 := index_none hi
  have hlen : 0 < h.length := List.length_pos_iff.2 hne
  have key : ∀ k, 1 ≤ k → k + 1 < h.length → footAt h k = false := by
    intro k hk1 hk2
    have h4 := h3 (k - 1)
    rw [occAt_foot (isBytes_drop hB), get_drop (by omega), get_drop (by omega), show 1 + (k - 1) = k by omega, show 1 + (k - 1 + 1) = k + 1 by omega, decide_eq_true (show k - 1 + 1 < (h.drop 1).length by rw [List.length_drop]; omega), Bool.true_and] at h4
    rw [footAt_occ hk2]
    exact h4
  by_cases hc : h[h.length - 1]! = 56 ∧ 1 < h.length
  · rw [if_pos hc]
    refine footF_first (by omega) (by omega) ?_ (fun k h1 h2 => key k h1 (by omega))
    unfold footAt
    rw [decide_eq_true hc.1, decide_eq_true (show h.length - 1 + 1 = h.length by omega)]
    rfl
  · rw [if_neg hc]
    refine footF_none (by omega) (fun k h1 h2 => ?_)
    by_cases hk : k + 1 < h.length
    · exact key k h1 hk
    · obtain rfl : k = h.length - 1 := by omega
      unfold footAt
      rw [decide_eq_false (fun h => hc ⟨h, by omega⟩), Bool.false_and]
end Go.Rx
