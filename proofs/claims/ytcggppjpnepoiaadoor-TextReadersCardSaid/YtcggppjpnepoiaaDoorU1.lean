/- What a body's fields say, and what a line is read as: plain functions. -/
import Derived.Test.YtcggppjpnepoiaaDoorT2
namespace Go.Rx
open Go Go.RowKit Go.Lib Go.Proofs.YtcggppjpnepoiaaDoor
set_option linter.unusedVariables false
set_option linter.unusedSimpArgs false
/-- The bytes up to the next 1. -/
def fieldAt (l : List Int) (p : Nat) : List Int := (l.drop p).take (firstF 1 (l.drop p))
inductive PartA
  | bad (p : Nat) (e : Int)
  | ok (kind : ByteArray) (xs : List Tg)
def partsF (l : List Int) (from_ to p : Nat) (kind : ByteArray) (xs : List Tg) : PartA :=
  if p < to then
    if (takeF (fieldAt l p) (decide (p = from_)) kind xs).1 ≠ 0 then .bad p (takeF (fieldAt l p) (decide (p = from_)) kind xs).1
    else partsF l from_ to (p + firstF 1 (l.drop p) + 1) (takeF (fieldAt l p) (decide (p = from_)) kind xs).2.1 (takeF (fieldAt l p) (decide (p = from_)) kind xs).2.2
  else .ok kind xs
termination_by to - p
theorem partsF_end {l : List Int} {f to p : Nat} {kind : ByteArray} {xs : List Tg} (h : ¬ p < to) : partsF l f to p kind xs = .ok kind xs := by
  rw [partsF, if_neg h]
theorem partsF_bad {l : List Int} {f to p : Nat} {kind kind' : ByteArray} {xs xs' : List Tg} {e : Int} (h : p < to) (ht : takeF (fieldAt l p) (decide (p = f)) kind xs = (e, kind', xs')) (he : e ≠ 0) : partsF l f to p kind xs = .bad p e := by
  rw [partsF, if_pos h, ht]
  exact if_pos he
theorem partsF_step {l : List Int} {f to p : Nat} {kind kind' : ByteArray} {xs xs' : List Tg} (h : p < to) (ht : takeF (fieldAt l p) (decide (p = f)) kind xs = (0, kind', xs')) : partsF l f to p kind xs = partsF l f to (p + firstF 1 (l.drop p) + 1) kind' xs' := by
  rw [partsF, if_pos h, ht]
  exact if_neg (fun h => h rfl)
theorem partsF_why {l : List Int} {f to : Nat} {q : Nat} {e : Int} : ∀ {p : Nat} {kind : ByteArray} {xs : List Tg}, partsF l f to p kind xs = .bad q e → e ≠ 0 := by
  intro p kind xs h
  generalize hd : to - p = d
  induction d using Nat.strongRecOn generalizing p kind xs with
  | _ d ih =>
    rw [partsF] at h
    split at h
    · split at h
      · rename_i h2
        cases h
        exact h2
      · exact ih (to - (p + firstF 1 (l.drop p) + 1)) (by omega) h rfl
    · cases h
theorem takeF_len {F : List Int} {first : Bool} {kind : ByteArray} {xs : List Tg} (h : xs.length ≤ 64) : (takeF F first kind xs).2.2.length ≤ 64 := by
  unfold takeF
  split
  · exact h
  · split
    · split <;> exact h
    · split
      · exact h
      · split
        · exact h
        · simp
          omega
theorem firstF_hit {c : Int} : ∀ {l : List Int} {i : Nat}, i < l.length → l[i]! = c → firstF c l ≤ i
  | [], i, h, _ => by simp at h
  | x :: r, 0, h, hc => by
    have : x = c := by simpa using hc
    unfold firstF
    rw [if_pos this]
    exact Nat.le_refl _
  | x :: r, i + 1, h, hc => by
    unfold firstF
    split
    · exact Nat.zero_le _
    · have := firstF_hit (l := r) (i := i) (by simpa using h) (by simpa using hc)
      omega
theorem firstF_get {c : Int} : ∀ {l : List Int}, firstF c l < l.length → l[firstF c l]! = c
  | [], h => by simp at h
  | x :: r, h => by
    unfold firstF at h ⊢
    split
    · rename_i hx
      simpa using hx
    · rename_i hx
      rw [if_neg hx] at h
      have := firstF_get (l := r) (by simpa using h)
      simpa using this
theorem firstF_lt {c : Int} : ∀ {l : List Int} {i : Nat}, i < firstF c l → l[i]! ≠ c
  | [], i, h => by simp [firstF] at h
  | x :: r, 0, h => by
    unfold firstF at h
    split at h
    · omega
    · simpa using ‹¬ x = c›
  | x :: r, i + 1, h => by
    unfold firstF at h
    split at h
    · omega
    · have := firstF_lt (c := c) (l := r) (i := i) (by omega)
      simpa using this
theorem firstF_eq {c : Int} {l : List Int} {i : Nat} (hi : i ≤ l.length) (h1 : ∀ j < i, l[j]! ≠ c) (h2 : i < l.length → l[i]! = c) : firstF c l = i := by
  have hle := firstF_le c l
  rcases Nat.lt_trichotomy (firstF c l) i with h | h | h
  · exact absurd (firstF_get (by omega)) (h1 _ h)
  · exact h
  · exact absurd (h2 (by omega)) (firstF_lt h)
theorem get_drop {l : List Int} {p j : Nat} (h : p + j < l.length) : (l.drop p)[j]! = l[p + j]! := by
  rw [getElem!_pos l (p + j) h, getElem!_pos (l.drop p) j (by rw [List.length_drop]; omega)]
  simp
theorem get_take {l : List Int} {p j : Nat} (h : j < p) (hl : j < l.length) : (l.take p)[j]! = l[j]! := by
  rw [getElem!_pos l j hl, getElem!_pos (l.take p) j (by rw [List.length_take]; omega)]
  simp
/-- A next 1 stands within the body. -/
theorem first_in {l : List Int} {to p : Nat} (h : p < to) (ht : to ≤ l.length) (h1 : l[to - 1]! = 1) : p + firstF 1 (l.drop p) < to := by
  have h2 : firstF 1 (l.drop p) ≤ to - 1 - p := firstF_hit (by rw [List.length_drop]; omega) (by rw [get_drop (by omega), show p + (to - 1 - p) = to - 1 by omega]; exact h1)
  omega
structure ReadA where
  kind : ByteArray
  tags : List Tg
  place : Int
  why : Int
  size : Nat
def badA (a c : Int) : ReadA := ⟨⟨#[]⟩, [], a, c, 0⟩
def partA (s : Nat) : PartA → ReadA
  | .bad p e => ⟨⟨#[]⟩, [], p, e, s⟩
  | .ok kind xs => ⟨kind, xs, (s : Nat), 0, s⟩
/-- What a line is read as. -/
def readF (l : List Int) : ReadA :=
  match headF l with
  | .bad a c => badA a c
  | .ok f k =>
    if 2048 < f + k + 7 then badA 10 2
    else if l.length < f + k + 7 then badA l.length 20
    else if trailB ((l.drop (f + k)).take 7) = false ∨ k = 0 ∨ l[f + k - 1]! ≠ 1 then badA (f + k : Nat) 32
    else if (l.drop (f + k)).take 7 ≠ lastL (l.take (f + k)) then badA (f + k : Nat) 33
    else partA (f + k + 7) (partsF l f (f + k) f ⟨#[]⟩ [])
end Go.Rx
