/- Parts of the proof. -/
import Derived.Test.YthpejgmkiomfhaaGreatDoorPart2
import Derived.Test.YthpejgmkiomfhaaGreatDoorPart1
import Derived.Test.YthpejgmkiomfhaaGreatDoorRxL2
set_option linter.unusedVariables false
set_option linter.unusedSimpArgs false
/- What Encode makes, as a plain function; Decode of it, and it of what was decoded. -/
namespace Go.Rx
open Go Go.RowKit Go.Lib Go.Proofs.YthpejgmkiomfhaaGreatDoor
set_option linter.unusedVariables false
set_option linter.unusedSimpArgs false
def decL (n : Nat) : List Int := (decDigits n).map fun c => (c.toNat : Int)
def fldL (n : Nat) (v : ByteArray) : List Int := decL n ++ 61 :: bytesOf v
def fieldL (n : Nat) (v : ByteArray) : List Int := fldL n v ++ [1]
def bodyL (kind : ByteArray) (xs : List Tg) : List Int := fieldL 35 kind ++ xs.flatMap fun t => fieldL t.tag.toNat t.value
def encE : List Tg → List Tg → Int
  | _, [] => 0
  | seen, t :: r => if refusedF seen t ≠ 0 then refusedF seen t else encE (seen ++ [t]) r
def frontL (kind : ByteArray) (xs : List Tg) : List Int := beginL ++ decL (bodyL kind xs).length ++ [1] ++ bodyL kind xs
def lineL (kind : ByteArray) (xs : List Tg) : List Int := frontL kind xs ++ lastL (frontL kind xs)
def encF (kind : ByteArray) (xs : List Tg) : Int × List Int :=
  if kindB kind = false then (3, [])
  else if 64 < xs.length then (2, [])
  else if encE [] xs ≠ 0 then (encE [] xs, [])
  else if 2048 < (lineL kind xs).length then (2, [])
  else (0, lineL kind xs)
theorem decL_digit (n : Nat) : ∀ c ∈ decL n, 48 ≤ c ∧ c ≤ 57 := by
  intro c hc
  obtain ⟨x, hx, rfl⟩ := List.mem_map.1 hc
  have := dec_digits n x hx
  omega
theorem decL_len (n : Nat) : (decL n).length = nDigits n := by
  unfold decL
  rw [List.length_map]
  exact decDigits_length n
theorem decL_pos (n : Nat) : 0 < (decL n).length := by
  rw [decL_len]
  exact nDigits_pos n
theorem decL_bytes (n : Nat) : isBytes (decL n) := fun c hc => by
  have := decL_digit n c hc
  omega
theorem strOf_dec (n : Nat) : strOf (decL n) = decS n := by
  apply ba_ext
  rw [strOf_toList, decS_list]
  unfold decL
  rw [List.map_map]
  conv => rhs; rw [← List.map_id (decDigits n)]
  apply List.map_congr_left
  intro c hc
  simp
theorem decL_of {F : List Int} {n : Nat} (hB : isBytes F) (h : natF (strOf F) = some n) : F = decL n := by
  rw [natF_eq] at h
  have h1 := (numOf_some h).1
  rw [← strOf_dec] at h1
  exact (strOf_inj hB (decL_bytes n)).1 h1
theorem natF_dec {n : Nat} (h : n ≤ 18446744073709551615) : natF (strOf (decL n)) = some n := by
  rw [strOf_dec, natF_eq]
  exact numOf_dec h
theorem decL_four {n : Nat} (h : n < 10000) : (decL n).length ≤ 4 := by
  have e : ∀ k : Nat, k < 10 → (decDigits k).length = 1 := fun k hk => by rw [decDigits_one hk]; rfl
  have s : ∀ k : Nat, ¬ k < 10 → (decDigits k).length = (decDigits (k / 10)).length + 1 := fun k hk => by
    rw [decDigits, dif_neg hk, List.length_append]
    rfl
  have key : ∀ m k : Nat, k < 10 ^ (m + 1) → (decDigits k).length ≤ m + 1 := by
    intro m
    induction m with
    | zero => intro k hk; rw [e k (by simpa using hk)]; exact Nat.le_refl _
    | succ m ih =>
      intro k hk
      by_cases h1 : k < 10
      · rw [e k h1]; omega
      · rw [s k h1]
        have := ih (k / 10) (by rw [Nat.pow_succ] at hk; omega)
        omega
  unfold decL
  rw [List.length_map]
  exact key 3 n (by simpa using h)
theorem firstF_app {c : Int} {a b : List Int} (h : ∀ x ∈ a, x ≠ c) : firstF c (a ++ c :: b) = a.length := by
  induction a with
  | nil => exact if_pos rfl
  | cons x r ih =>
    have e : firstF c (x :: r ++ c :: b) = firstF c (r ++ c :: b) + 1 := if_neg (h x (List.mem_cons_self ..))
    rw [e, ih (fun y hy => h y (List.mem_cons_of_mem _ hy))]
    rfl
theorem fld_len (n : Nat) (v : ByteArray) : (fldL n v).length = (decL n).length + 1 + v.size := by
  unfold fldL
  rw [List.length_append, List.length_cons, bytesOf_length]
  omega
theorem field_len (n : Nat) (v : ByteArray) : (fieldL n v).length = (decL n).length + 2 + v.size := by
  unfold fieldL
  rw [List.length_append, fld_len]
  simp
  omega
theorem fld_first (n : Nat) (v : ByteArray) : firstF 61 (fldL n v) = (decL n).length := firstF_app fun x hx => by
  have := decL_digit n x hx
  omega
theorem fld_value (n : Nat) (v : ByteArray) : fieldV (fldL n v) = v := by
  unfold fieldV
  rw [fld_first]
  unfold fldL
  rw [← List.drop_drop, List.drop_left]
  exact strOf_bytes v
theorem fld_num {n : Nat} (v : ByteArray) (h : n < 10000) : fieldN (fldL n v) = some n := by
  unfold fieldN
  rw [fld_first, if_pos ⟨by rw [fld_len]; omega, decL_four h⟩]
  unfold fldL
  rw [List.take_left]
  exact natF_dec (by omega)
theorem value_no1 {v : ByteArray} (h : valueB v = true) : ∀ x ∈ bytesOf v, x ≠ 1 := by
  intro x hx
  unfold valueB at h
  rw [Bool.and_eq_true] at h
  have := List.all_eq_true.1 h.2 x hx
  unfold printB at this
  simp only [Bool.and_eq_true, decide_eq_true_eq] at this
  omega
theorem kind_no1 {v : ByteArray} (h : kindB v = true) : ∀ x ∈ bytesOf v, x ≠ 1 := by
  intro x hx
  unfold kindB at h
  rw [Bool.and_eq_true] at h
  have := List.all_eq_true.1 h.2 x hx
  unfold alnum at this
  simp only [Bool.and_eq_true, Bool.or_eq_true, decide_eq_true_eq] at this
  omega
theorem fld_no1 {n : Nat} {v : ByteArray} (h : ∀ x ∈ bytesOf v, x ≠ 1) : ∀ x ∈ fldL n v, x ≠ 1 := by
  intro x hx
  unfold fldL at hx
  rcases List.mem_append.1 hx with hx | hx
  · have := decL_digit n x hx; omega
  · rcases List.mem_cons.1 hx with rfl | hx
    · decide
    · exact h x hx
theorem field_at {l rest : List Int} {p n : Nat} {v : ByteArray} (hd : l.drop p = fieldL n v ++ rest) (h : ∀ x ∈ bytesOf v, x ≠ 1) : firstF 1 (l.drop p) = (fldL n v).length ∧ fieldAt l p = fldL n v := by
  have h1 : firstF 1 (l.drop p) = (fldL n v).length := by
    rw [hd]
    unfold fieldL
    rw [List.append_assoc]
    exact firstF_app (fld_no1 h)
  refine ⟨h1, ?_⟩
  unfold fieldAt
  rw [h1, hd]
  unfold fieldL
  rw [List.append_assoc, List.take_left]
theorem refused_ok {xs : List Tg} {t : Tg} (h : refusedF xs t = 0) : tagB t.tag = true ∧ thereB xs t.tag = false ∧ valueB t.value = true := by
  unfold refusedF at h
  split at h
  · cases h
  · rename_i h1
    split at h
    · cases h
    · rename_i h2
      simp only [Bool.or_eq_true, Bool.not_eq_true', not_or] at h1 h2
      exact ⟨by simpa using h1.1, by simpa using h1.2, by simpa using h2⟩
theorem tag_range {n : Int} (h : tagB n = true) : ((n.toNat : Nat) : Int) = n ∧ n.toNat < 10000 ∧ 1 ≤ n.toNat := by
  unfold tagB at h
  simp only [Bool.and_eq_true, decide_eq_true_eq] at h
  omega
theorem parts_enc {l : List Int} {f : Nat} {kind : ByteArray} : ∀ (ys seen : List Tg) (p : Nat) (tail : List Int), l.drop p = (ys.flatMap fun t => fieldL t.tag.toNat t.value) ++ tail → f < p → encE seen ys = 0 → (seen ++ ys).length ≤ 64 →
    partsF l f (p + (ys.flatMap fun t => fieldL t.tag.toNat t.value).length) p kind seen = .ok kind (seen ++ ys)
  | [], seen, p, tail, hd, hf, he, hl => by
    rw [partsF_end (by simp)]
    rw [List.append_nil]
  | t :: r, seen, p, tail, hd, hf, he, hl => by
    have hr : refusedF seen t = 0 := by
      unfold encE at he
      by_cases h : refusedF seen t ≠ 0
      · rw [if_pos h] at he; exact absurd he h
      · exact Classical.not_not.1 h
    have he2 : encE (seen ++ [t]) r = 0 := by
      unfold encE at he
      rwa [if_neg (fun h => h hr)] at he
    obtain ⟨h1, h2, h3⟩ := refused_ok hr
    obtain ⟨g1, g2, g3⟩ := tag_range h1
    rw [List.flatMap_cons, List.append_assoc] at hd
    obtain ⟨a1, a2⟩ := field_at hd (value_no1 h3)
    have hlen := field_len t.tag.toNat t.value
    have hfl := fld_len t.tag.toNat t.value
    have htk : takeF (fieldAt l p) (decide (p = f)) kind seen = (0, kind, seen ++ [t]) := by
      rw [decide_eq_false (by omega), a2, takeF_next (fld_num _ g2), fld_value, g1]
      rw [if_neg (by simp at hl; omega), if_neg (fun h => h hr)]
    have hto : p + ((t :: r).flatMap fun t => fieldL t.tag.toNat t.value).length = p + (fldL t.tag.toNat t.value).length + 1 + (r.flatMap fun t => fieldL t.tag.toNat t.value).length := by
      rw [List.flatMap_cons, List.length_append]
      omega
    have hlt : p < p + (fldL t.tag.toNat t.value).length + 1 + (r.flatMap fun t => fieldL t.tag.toNat t.value).length := by omega
    rw [hto, partsF_step hlt htk, a1]
    have ih := parts_enc (l := l) (f := f) (kind := kind) r (seen ++ [t]) (p + (fldL t.tag.toNat t.value).length + 1) tail (by
      have e : p + (fldL t.tag.toNat t.value).length + 1 = p + (fieldL t.tag.toNat t.value).length := by omega
      rw [e, ← List.drop_drop, hd, List.drop_left]) (by omega) he2 (by simpa using hl)
    rw [List.append_assoc] at ih
    exact ih
theorem preF_full {l : List Int} : ∀ (k i : Nat), (∀ j, i ≤ j → j < i + k → j < l.length ∧ l[j]! = beginL[j]!) → preF l k i = i + k
  | 0, i, h => rfl
  | k + 1, i, h => by
    unfold preF
    rw [if_pos (h i (Nat.le_refl _) (by omega)), preF_full k (i + 1) (fun j h1 h2 => h j (by omega) (by omega))]
    omega
theorem preF_inv {l : List Int} : ∀ (k i : Nat), preF l k i = i + k → ∀ j, i ≤ j → j < i + k → j < l.length ∧ l[j]! = beginL[j]!
  | 0, i, h, j, h1, h2 => by omega
  | k + 1, i, h, j, h1, h2 => by
    unfold preF at h
    by_cases hc : i < l.length ∧ l[i]! = beginL[i]!
    · rw [if_pos hc] at h
      by_cases hj : j = i
      · rw [hj]; exact hc
      · exact preF_inv k (i + 1) (by omega) j (by omega) (by omega)
    · rw [if_neg hc] at h
      omega
theorem dgF_at {l : List Int} {d : Nat} : ∀ (k n : Nat), n ≤ d → d ≤ n + k → (∀ j, n ≤ j → j < d → 10 + j < l.length ∧ digit l[10 + j]! = true) → (d < n + k → ¬ (10 + d < l.length ∧ digit l[10 + d]! = true)) → dgF l k n = d
  | 0, n, h1, h2, h3, h4 => by
    show n = d
    omega
  | k + 1, n, h1, h2, h3, h4 => by
    unfold dgF
    by_cases hd : n = d
    · subst hd
      rw [if_neg (h4 (by omega))]
    · rw [if_pos (h3 n (Nat.le_refl _) (by omega))]
      exact dgF_at k (n + 1) (by omega) (by omega) (fun j a b => h3 j (by omega) b) (fun a => h4 (by omega))
theorem get_app_left {a b : List Int} {i : Nat} (h : i < a.length) : (a ++ b)[i]! = a[i]! := by
  rw [getElem!_pos (a ++ b) i (by rw [List.length_append]; omega), getElem!_pos a i h, List.getElem_append_left h]
theorem get_app_right {a b : List Int} {i : Nat} (h : i < b.length) : (a ++ b)[a.length + i]! = b[i]! := by
  rw [getElem!_pos (a ++ b) (a.length + i) (by rw [List.length_append]; omega), getElem!_pos b i h, List.getElem_append_right (by omega)]
  congr 1
  omega
theorem head_enc {m : Nat} {rest : List Int} (h : m < 10000) : headF (beginL ++ decL m ++ [1] ++ rest) = .ok (11 + (decL m).length) m := by
  have hd4 := decL_four h
  have hdp := decL_pos m
  generalize hl : beginL ++ decL m ++ [1] ++ rest = l
  have e1 : l = beginL ++ (decL m ++ ([1] ++ rest)) := by rw [← hl]; simp
  have hll : l.length = 10 + (decL m).length + 1 + rest.length := by
    rw [← hl]
    simp [beginL]
    omega
  have hb : ∀ j, j < 10 → l[j]! = beginL[j]! := fun j hj => by rw [e1]; exact get_app_left (by simpa [beginL] using hj)
  have hg : ∀ j, j < (decL m).length → l[10 + j]! = (decL m)[j]! := fun j hj => by
    have h1 := get_app_right (a := beginL) (b := decL m ++ ([1] ++ rest)) (i := j) (by rw [List.length_append]; omega)
    rw [e1]
    rw [get_app_left hj] at h1
    exact h1
  have h1 : l[10 + (decL m).length]! = 1 := by
    have h1 := get_app_right (a := beginL) (b := decL m ++ ([1] ++ rest)) (i := (decL m).length) (by simp)
    have h2 := get_app_right (a := decL m) (b := [1] ++ rest) (i := 0) (by simp)
    rw [e1]
    rw [Nat.add_zero] at h2
    rw [h2] at h1
    exact h1
  have hp : preF l 10 0 = 10 := preF_full 10 0 fun j _ hj => ⟨by omega, hb j (by omega)⟩
  have hdg : dgF l 5 0 = (decL m).length := by
    refine dgF_at 5 0 (by omega) (by omega) (fun j _ hj => ⟨by omega, ?_⟩) (fun _ => ?_)
    · rw [hg j hj, getElem!_pos _ j hj]
      have := decL_digit m _ (List.getElem_mem hj)
      unfold digit
      simp only [Bool.and_eq_true, decide_eq_true_eq]
      omega
    · rintro ⟨_, h2⟩
      rw [h1] at h2
      cases h2
  have hdr : (l.drop 10).take (decL m).length = decL m := by
    rw [e1]
    have : (beginL ++ (decL m ++ ([1] ++ rest))).drop 10 = decL m ++ ([1] ++ rest) := rfl
    rw [this, List.take_left]
  unfold headF
  rw [hp, if_neg (by omega), hdg, if_neg (by omega), hdr, natF_dec (by omega)]
  simp only
  rw [if_neg]
  rintro (h2 | h2)
  · omega
  · exact h2 h1
end Go.Rx
/- Decode of what was encoded, and Encode of what was decoded: the plain laws. -/
namespace Go.Rx
open Go Go.RowKit Go.Lib Go.Proofs.YthpejgmkiomfhaaGreatDoor
set_option linter.unusedVariables false
set_option linter.unusedSimpArgs false
theorem encF_ok {kind : ByteArray} {xs : List Tg} {l : List Int} (h : encF kind xs = (0, l)) : kindB kind = true ∧ xs.length ≤ 64 ∧ encE [] xs = 0 ∧ (lineL kind xs).length ≤ 2048 ∧ l = lineL kind xs := by
  unfold encF at h
  split at h
  · cases h
  · rename_i h1
    split at h
    · cases h
    · rename_i h2
      split at h
      · rename_i h3
        exact absurd (Prod.mk.inj h).1 h3
      · rename_i h3
        split at h
        · cases h
        · rename_i h4
          exact ⟨by simpa using h1, by omega, Classical.not_not.1 h3, by omega, (Prod.mk.inj h).2.symm⟩
theorem flat_last : ∀ (xs : List Tg) (pre : List Int), ∃ x, (pre ++ [1]) ++ (xs.flatMap fun t => fieldL t.tag.toNat t.value) = x ++ [1]
  | [], pre => ⟨pre, by simp⟩
  | t :: r, pre => by
    obtain ⟨x, hx⟩ := flat_last r ((pre ++ [1]) ++ fldL t.tag.toNat t.value)
    refine ⟨x, ?_⟩
    rw [← hx]
    simp [fieldL, List.flatMap_cons]
theorem body_last (kind : ByteArray) (xs : List Tg) : ∃ x, bodyL kind xs = x ++ [1] := flat_last xs (fldL 35 kind)
theorem last_seven (l : List Int) : (lastL l).length = 7 := rfl
theorem trail_ok (l : List Int) : trailB (lastL l) = true := by
  have hs := sumB_range l
  show trailB [49, 48, 61, 48 + sumB l / 100, 48 + sumB l / 10 % 10, 48 + sumB l % 10, 1] = true
  rw [trailB_seven]
  unfold digit
  simp only [Bool.and_eq_true, decide_eq_true_eq]
  refine ⟨⟨⟨?_, ?_, ?_⟩, ?_⟩, ?_⟩
  all_goals first | omega | simp
theorem front_len (kind : ByteArray) (xs : List Tg) : (frontL kind xs).length = 11 + (decL (bodyL kind xs).length).length + (bodyL kind xs).length := by
  unfold frontL
  simp [beginL]
  omega
theorem line_len (kind : ByteArray) (xs : List Tg) : (lineL kind xs).length = 11 + (decL (bodyL kind xs).length).length + (bodyL kind xs).length + 7 := by
  unfold lineL
  rw [List.length_append, last_seven, front_len]
theorem read_enc {kind : ByteArray} {xs : List Tg} {l : List Int} (h : encF kind xs = (0, l)) (behind : List Int) : readF (l ++ behind) = ⟨kind, xs, (l.length : Int), 0, l.length⟩ := by
  obtain ⟨hk, hx, he, hlen, rfl⟩ := encF_ok h
  have hll := line_len kind xs
  have hfl := front_len kind xs
  obtain ⟨y, hy⟩ := body_last kind xs
  have hm : (bodyL kind xs).length = y.length + 1 := by rw [hy]; simp
  have hbody : bodyL kind xs = fieldL 35 kind ++ xs.flatMap fun t => fieldL t.tag.toNat t.value := rfl
  have hblen : (bodyL kind xs).length = (fieldL 35 kind).length + (xs.flatMap fun t => fieldL t.tag.toNat t.value).length := by rw [hbody, List.length_append]
  generalize hd : (decL (bodyL kind xs).length).length = d at hll hfl
  generalize hfr : frontL kind xs = front at hfl
  have hL : lineL kind xs ++ behind = beginL ++ decL (bodyL kind xs).length ++ [1] ++ (bodyL kind xs ++ (lastL front ++ behind)) := by
    have hfe : front = beginL ++ decL (bodyL kind xs).length ++ [1] ++ bodyL kind xs := hfr.symm
    unfold lineL
    rw [hfr, hfe]
    simp only [List.append_assoc]
  have hhead := head_enc (m := (bodyL kind xs).length) (rest := bodyL kind xs ++ (lastL front ++ behind)) (by omega)
  rw [← hL, hd] at hhead
  have hL2 : lineL kind xs ++ behind = front ++ (lastL front ++ behind) := by
    unfold lineL
    rw [hfr]
    simp
  have hL3 : lineL kind xs ++ behind = (beginL ++ decL (bodyL kind xs).length ++ [1]) ++ (fieldL 35 kind ++ ((xs.flatMap fun t => fieldL t.tag.toNat t.value) ++ (lastL front ++ behind))) := by
    rw [hL, hbody]
    simp
  have hll2 : (lineL kind xs ++ behind).length = (lineL kind xs).length + behind.length := List.length_append
  generalize hLg : lineL kind xs ++ behind = L at hhead hL hL2 hL3 hll2
  generalize hmg : (bodyL kind xs).length = m at *
  have hfm : 11 + d + m = front.length := by omega
  have htake : L.take (11 + d + m) = front := by rw [hfm, hL2, List.take_left]
  have hdrop : (L.drop (11 + d + m)).take 7 = lastL front := by rw [hfm, hL2, List.drop_left, ← last_seven front, List.take_left]
  have h1 : L[11 + d + m - 1]! = 1 := by
    have e : front = (beginL ++ decL m ++ [1] ++ y) ++ [1] := by
      rw [← hfr]
      unfold frontL
      rw [hmg, hy]
      simp
    have h2 := get_app_right (a := beginL ++ decL m ++ [1] ++ y) (b := [1] ++ (lastL front ++ behind)) (i := 0) (by simp)
    have e2 : L = (beginL ++ decL m ++ [1] ++ y) ++ ([1] ++ (lastL front ++ behind)) := by
      rw [hL2, e]
      simp only [List.append_assoc]
    rw [← e2, Nat.add_zero] at h2
    have e3 : (beginL ++ decL m ++ [1] ++ y).length = 11 + d + m - 1 := by
      simp [beginL]
      omega
    rw [e3] at h2
    exact h2
  have hf35 := field_len 35 kind
  have hfld := fld_len 35 kind
  have hdf : L.drop (11 + d) = fieldL 35 kind ++ ((xs.flatMap fun t => fieldL t.tag.toNat t.value) ++ (lastL front ++ behind)) := by
    have e : (beginL ++ decL m ++ [1]).length = 11 + d := by
      simp [beginL]
      omega
    rw [hL3, ← e, List.drop_left]
  obtain ⟨a1, a2⟩ := field_at hdf (kind_no1 hk)
  have htk : takeF (fieldAt L (11 + d)) (decide (11 + d = 11 + d)) ⟨#[]⟩ [] = (0, kind, []) := by
    rw [decide_eq_true rfl, a2, takeF_first (fld_num kind (by decide)), fld_value, if_neg]
    rintro (h | h)
    · exact h rfl
    · rw [hk] at h; cases h
  have hparts : partsF L (11 + d) (11 + d + m) (11 + d) ⟨#[]⟩ [] = .ok kind xs := by
    rw [partsF_step (by omega) htk, a1]
    have h3 := parts_enc (l := L) (f := 11 + d) (kind := kind) xs [] (11 + d + (fldL 35 kind).length + 1) (lastL front ++ behind) (by
      rw [show 11 + d + (fldL 35 kind).length + 1 = 11 + d + (fieldL 35 kind).length by omega, ← List.drop_drop, hdf, List.drop_left]) (by omega) he (by simpa using hx)
    rw [List.nil_append] at h3
    rw [show 11 + d + m = 11 + d + (fldL 35 kind).length + 1 + (xs.flatMap fun t => fieldL t.tag.toNat t.value).length by omega]
    exact h3
  have hcc : ¬ (trailB ((L.drop (11 + d + m)).take 7) = false ∨ m = 0 ∨ L[11 + d + m - 1]! ≠ 1) := by
    rw [hdrop, trail_ok]
    rintro (h | h | h)
    · cases h
    · omega
    · exact h h1
  rw [readF_parts hhead (by omega) (by omega) hcc (by rw [hdrop, htake]; exact fun h => h rfl), hparts]
  unfold partA
  rw [hll]
theorem fieldN_inv {F : List Int} {n : Nat} (hB : isBytes F) (h : fieldN F = some n) : F = fldL n (fieldV F) ∧ n < 10000 := by
  unfold fieldN at h
  split at h
  · rename_i hc
    have h1 := decL_of (isBytes_take hB) h
    have h2 := firstF_get hc.1
    refine ⟨?_, ?_⟩
    · unfold fldL fieldV
      rw [bytesOf_str (isBytes_drop hB), ← h1]
      conv => lhs; rw [← List.take_append_drop (firstF 61 F) F]
      congr 1
      rw [List.drop_eq_getElem_cons hc.1]
      congr 1
      rw [getElem!_pos F _ hc.1] at h2
      exact h2
    · have h3 := natF_lt h
      rw [strOf_size] at h3
      have h4 : (F.take (firstF 61 F)).length ≤ 4 := by rw [List.length_take]; omega
      exact Nat.lt_of_lt_of_le h3 (Nat.pow_le_pow_right (by decide) h4)
  · cases h
theorem split_field {l : List Int} {p r : Nat} (h : p + firstF 1 (l.drop p) < l.length) : (l.drop p).take (firstF 1 (l.drop p) + 1 + r) = fieldAt l p ++ [1] ++ (l.drop (p + firstF 1 (l.drop p) + 1)).take r := by
  have hlt : firstF 1 (l.drop p) < (l.drop p).length := by rw [List.length_drop]; omega
  have h2 := firstF_get hlt
  rw [List.take_add, List.take_add]
  unfold fieldAt
  congr 1
  · congr 1
    rw [List.drop_eq_getElem_cons hlt]
    rw [getElem!_pos (l.drop p) (firstF 1 (l.drop p)) hlt] at h2
    rw [h2]
    rfl
  · rw [List.drop_drop]
    congr 2
theorem parts_inv {l : List Int} {f to : Nat} {kind' : ByteArray} {ys : List Tg} (hB : isBytes l) (ht : to ≤ l.length) (h1 : l[to - 1]! = 1) : ∀ {p : Nat} {kind : ByteArray} {xs : List Tg}, f < p → p ≤ to → xs.length ≤ 64 → partsF l f to p kind xs = .ok kind' ys →
    kind' = kind ∧ ∃ zs, ys = xs ++ zs ∧ (l.drop p).take (to - p) = (zs.flatMap fun t => fieldL t.tag.toNat t.value) ∧ encE xs zs = 0 ∧ ys.length ≤ 64 := by
  intro p kind xs hf hp hx h
  generalize hd : to - p = d
  induction d using Nat.strongRecOn generalizing p kind xs with
  | _ d ih =>
    by_cases hlt : p < to
    · have hin := first_in hlt ht h1
      rcases htk : takeF (fieldAt l p) (decide (p = f)) kind xs with ⟨e, k1, xs1⟩
      by_cases he : e = 0
      · subst he
        rw [partsF_step hlt htk] at h
        rw [decide_eq_false (by omega)] at htk
        cases hN : fieldN (fieldAt l p) with
        | none => rw [takeF_none hN] at htk; cases htk
        | some n =>
          rw [takeF_next hN] at htk
          by_cases h64 : xs.length = 64
          · rw [if_pos h64] at htk; cases htk
          · rw [if_neg h64] at htk
            by_cases hr : refusedF xs ⟨n, fieldV (fieldAt l p)⟩ ≠ 0
            · rw [if_pos hr] at htk
              exact absurd (Prod.mk.inj htk).1 hr
            · rw [if_neg hr] at htk
              cases htk
              obtain ⟨g1, zs, g2, g3, g4, g5⟩ := ih (to - (p + firstF 1 (l.drop p) + 1)) (by omega) (by omega) (by omega) (by simp; omega) h rfl
              refine ⟨g1, ⟨n, fieldV (fieldAt l p)⟩ :: zs, by rw [g2]; simp, ?_, ?_, g5⟩
              · rw [show d = firstF 1 (l.drop p) + 1 + (to - (p + firstF 1 (l.drop p) + 1)) by omega, split_field (by omega), g3, List.flatMap_cons]
                congr 1
                unfold fieldL
                show _ = fldL ((n : Int).toNat) (fieldV (fieldAt l p)) ++ [1]
                rw [Int.toNat_natCast]
                congr 1
                exact (fieldN_inv (isBytes_take (isBytes_drop hB)) hN).1
              · unfold encE
                rw [if_neg hr]
                exact g4
      · rw [partsF_bad hlt htk he] at h
        cases h
    · rw [partsF_end hlt] at h
      cases h
      refine ⟨rfl, [], by simp, ?_, rfl, hx⟩
      rw [show d = 0 by omega]
      rfl
theorem head_inv {l : List Int} {f k : Nat} (hB : isBytes l) (h : headF l = .ok f k) : l.take f = beginL ++ decL k ++ [1] ∧ f = 11 + (decL k).length ∧ f ≤ l.length := by
  have hpl := preF_le l 10 0
  have hgl := dgF_le l 5 0
  unfold headF at h
  split at h
  · split at h <;> cases h
  · rename_i h1
    have hp : preF l 10 0 = 10 := by omega
    have hinv := preF_inv 10 0 (by rw [hp])
    split at h
    · cases h
    · rename_i h2
      split at h
      · rename_i q hq
        split at h
        · cases h
        · rename_i h3
          cases h
          have h4 : l[10 + dgF l 5 0]! = 1 := Classical.not_not.1 fun h => h3 (.inr h)
          have h10 : 10 ≤ l.length := by have := (hinv 9 (by omega) (by omega)).1; omega
          have hdl := dgF_len l 5 0 (by omega)
          have hlt : 10 + dgF l 5 0 < l.length := by omega
          have hdec := decL_of (isBytes_take (isBytes_drop hB)) hq
          have hlen : (decL k).length = dgF l 5 0 := by rw [← hdec, List.length_take, List.length_drop]; omega
          refine ⟨?_, by omega, by omega⟩
          have e10 : l.take 10 = beginL := by
            apply List.ext_getElem
            · rw [List.length_take]
              show min 10 l.length = 10
              omega
            · intro i ha hb
              obtain ⟨h5, h6⟩ := hinv i (by omega) (by rw [List.length_take] at ha; omega)
              rw [getElem!_pos l i h5, getElem!_pos beginL i hb] at h6
              rw [List.getElem_take]
              exact h6
          rw [getElem!_pos l _ hlt] at h4
          rw [show 11 + dgF l 5 0 = 10 + dgF l 5 0 + 1 by omega, List.take_succ_eq_append_getElem hlt, List.take_add, e10, hdec, h4]
      · cases h
theorem readF_ok_parts {l : List Int} (h : (readF l).why = 0) : ∃ f k kind xs, headF l = .ok f k ∧ ¬ 2048 < f + k + 7 ∧ ¬ l.length < f + k + 7 ∧ ¬ (trailB ((l.drop (f + k)).take 7) = false ∨ k = 0 ∨ l[f + k - 1]! ≠ 1) ∧ (l.drop (f + k)).take 7 = lastL (l.take (f + k)) ∧
    partsF l f (f + k) f ⟨#[]⟩ [] = .ok kind xs ∧ readF l = ⟨kind, xs, ((f + k + 7 : Nat) : Int), 0, f + k + 7⟩ := by
  cases hh : headF l with
  | bad a c => rw [readF_bad hh] at h; exact absurd h (head_why hh)
  | ok f k =>
    by_cases h1 : 2048 < f + k + 7
    · rw [readF_long hh h1] at h; cases h
    · by_cases h2 : l.length < f + k + 7
      · rw [readF_short hh h1 h2] at h; cases h
      · by_cases h3 : trailB ((l.drop (f + k)).take 7) = false ∨ k = 0 ∨ l[f + k - 1]! ≠ 1
        · rw [readF_body hh h1 h2 h3] at h; cases h
        · by_cases h4 : (l.drop (f + k)).take 7 ≠ lastL (l.take (f + k))
          · rw [readF_trail hh h1 h2 h3 h4] at h; cases h
          · have hr := readF_parts hh h1 h2 h3 h4
            cases hp : partsF l f (f + k) f ⟨#[]⟩ [] with
            | bad p e => rw [hr, hp] at h; exact absurd h (partsF_why hp)
            | ok kind xs =>
              rw [hp] at hr
              exact ⟨f, k, kind, xs, rfl, h1, h2, h3, Classical.not_not.1 h4, hp, hr⟩
theorem read_inv {l : List Int} (hB : isBytes l) (h : (readF l).why = 0) : encF (readF l).kind (readF l).tags = (0, l.take (readF l).size) ∧ 18 ≤ (readF l).size ∧ (readF l).size ≤ l.length := by
  obtain ⟨f, k, kind, xs, hh, h1, h2, h3, h4, hp, hr⟩ := readF_ok_parts h
  obtain ⟨q1, q2, q3⟩ := head_inv hB hh
  have hk0 : k ≠ 0 := fun h => h3 (.inr (.inl h))
  have hb1 : l[f + k - 1]! = 1 := Classical.not_not.1 fun h => h3 (.inr (.inr h))
  have hlt : f < f + k := by omega
  have hin := first_in hlt (by omega) hb1
  have hdp := decL_pos k
  rw [hr]
  refine ⟨?_, by show 18 ≤ f + k + 7; omega, by show f + k + 7 ≤ l.length; omega⟩
  show encF kind xs = (0, l.take (f + k + 7))
  rcases htk : takeF (fieldAt l f) (decide (f = f)) ⟨#[]⟩ [] with ⟨e, k1, xs1⟩
  have he : e = 0 := by
    by_cases he : e = 0
    · exact he
    · rw [partsF_bad hlt htk he] at hp; cases hp
  subst he
  rw [partsF_step hlt htk] at hp
  rw [decide_eq_true rfl] at htk
  cases hN : fieldN (fieldAt l f) with
  | none => rw [takeF_none hN] at htk; cases htk
  | some n =>
    rw [takeF_first hN] at htk
    by_cases hc : n ≠ 35 ∨ kindB (fieldV (fieldAt l f)) = false
    · rw [if_pos hc] at htk; cases htk
    · rw [if_neg hc] at htk
      cases htk
      obtain ⟨g1, zs, g2, g3, g4, g5⟩ := parts_inv hB (by omega) hb1 (by omega) (by omega) (Nat.zero_le _) hp
      rw [List.nil_append] at g2
      subst g2
      have hn : n = 35 := Classical.not_not.1 fun h => hc (.inl h)
      have hkb : kindB (fieldV (fieldAt l f)) = true := by
        cases hq : kindB (fieldV (fieldAt l f)) with
        | true => rfl
        | false => exact absurd (.inr hq) hc
      have hfi : fieldAt l f = fldL n (fieldV (fieldAt l f)) := (fieldN_inv (isBytes_take (isBytes_drop hB)) hN).1
      have hbody : (l.drop f).take k = bodyL kind xs := by
        rw [show k = firstF 1 (l.drop f) + 1 + (f + k - (f + firstF 1 (l.drop f) + 1)) by omega, split_field (by omega), g3]
        unfold bodyL fieldL
        rw [← hn, g1, ← hfi]
      have hbl : (bodyL kind xs).length = k := by rw [← hbody, List.length_take, List.length_drop]; omega
      have hfront : l.take (f + k) = frontL kind xs := by
        rw [List.take_add, q1, hbody]
        unfold frontL
        rw [hbl]
      have hline : l.take (f + k + 7) = lineL kind xs := by
        rw [List.take_add, h4, hfront]
        rfl
      have hll : (lineL kind xs).length = f + k + 7 := by rw [← hline, List.length_take]; omega
      unfold encF
      rw [if_neg (by rw [g1, hkb]; decide), if_neg (by omega), if_neg (fun h => h g4), if_neg (by omega), hline]
end Go.Rx
/- The program's Encode. -/
namespace Go.Rx
open Go Go.RowKit Go.Lib Go.Proofs.YthpejgmkiomfhaaGreatDoor
set_option linter.unusedVariables false
set_option linter.unusedSimpArgs false
structure Sb where
  v : Value
  l : List Int
deriving Inhabited
def Sb.enc (p : Sb) : List Value := [p.v]
theorem get_memS {α : Type} [Inhabited α] {xs : List α} {i : Nat} (h : i < xs.length) : xs[i]! ∈ xs := by
  rw [getElem!_pos xs i h]
  exact List.getElem_mem _
theorem flat_take {α : Type} [Inhabited α] (f : α → List Int) {xs : List α} {i : Nat} (h : i < xs.length) : (xs.take (i + 1)).flatMap f = (xs.take i).flatMap f ++ f xs[i]! := by
  rw [List.take_succ_eq_append_getElem h, List.flatMap_append, getElem!_pos xs i h]
  simp
theorem flat_le {α : Type} (f : α → List Int) (xs : List α) (i : Nat) : ((xs.take i).flatMap f).length ≤ (xs.flatMap f).length := by
  conv => rhs; rw [← List.take_append_drop i xs, List.flatMap_append, List.length_append]
  omega
theorem bytesOf_app (a b : ByteArray) : bytesOf (a ++ b) = bytesOf a ++ bytesOf b := by
  unfold bytesOf
  rw [ByteArray.data_append, Array.toList_append, List.map_append]
theorem bytesOf_dec (n : Nat) : bytesOf (decS n) = decL n := by
  unfold bytesOf decL
  rw [decS_list]
set_option maxHeartbeats 1000000 in
set_option maxRecDepth 100000 in
theorem growNilB {w : World} {m : Nat} (hm : m ≤ 140737488355328) : Spec Go.Proofs.Tryz.prog 91 #[.slice none 0 0, .int .i64 (m : Int)] w [] (fun u N => ∃ A c, u = .slice A 0 c ∧ N = [bytesC (.slice A 0 c) []]) := by
  refine Spec.enter (fn := Go.Proofs.Tryz.f91) (n := 27) [.slice none 0 0, .int .i64 (m : Int)] Go.Proofs.Tryz.func91 (by kernel_rfl) rfl Go.Proofs.Tryz.ntmps91 Go.Proofs.Tryz.results91 rfl (Own.nil _) ?_
  refine JC.rs ?_
  refine Seq.p rfl Ev.assign ?_
  refine Seq.nil ?_
  refine JC.seq ?_
  refine JC.rs ?_
  refine Seq.p rfl Ev.move ?_
  refine Seq.p rfl Ev.lt ?_
  refine Seq.nil ?_
  first | refine JC.c (ht := fun c6 => ?_) (hf := fun c6 => ?_) | refine JC.cb (ht := fun c6 => ?_) (hf := fun c6 => ?_)
  · -- then_t6
    exfalso; omega
  · -- else_t6
    refine JC.skip ?_
    refine JC.seq ?_
    refine JC.rs ?_
    refine Seq.p rfl Ev.move ?_
    refine Seq.p rfl Ev.move ?_
    refine Seq.p rfl (Ev.capSl sl.sl_uint8) ?_
    refine Seq.p rfl Ev.move ?_
    refine Seq.p rfl (Ev.lenSl sl.sl_uint8 (hr := (RSl.empty byteEnc 1 _ []).r)) ?_
    refine Seq.p rfl (Ev.sub (h := by decide)) ?_
    have e1 : ((0 : Nat) : Int) - ((List.length ([] : List Int) : Nat) : Int) = 0 := rfl
    rw [e1]
    refine Seq.p rfl (Ev.sub) ?_
    rw [Int.sub_zero]
    refine Seq.p rfl Ev.assign ?_
    refine Seq.nil ?_
    refine JC.rs ?_
    refine Seq.p rfl Ev.move ?_
    refine Seq.p rfl Ev.gt ?_
    refine Seq.nil ?_
    first | refine JC.c (ht := fun c16 => ?_) (hf := fun c16 => ?_) | refine JC.cb (ht := fun c16 => ?_) (hf := fun c16 => ?_)
    · -- then_t16
      refine JC.reg ?_
      refine Seq.p rfl Ev.move ?_
      refine Seq.p rfl Ev.move ?_
      refine Seq.p rfl (Ev.capSl sl.sl_uint8) ?_
      refine Seq.p rfl (Ev.cutHi (h := 0) sl.sl_uint8) ?_
      refine Seq.p rfl Ev.move ?_
      refine Seq.growNil (m := m) (hsl := sl.sl_uint8) (he := el.uint8) (hi := it.int) (kk := ?_); intro b22 c22 zs
      refine Seq.p rfl Ev.move ?_
      refine Seq.p rfl (Ev.lenSl sl.sl_uint8 (hr := (RSl.empty byteEnc 1 _ []).r)) ?_
      refine Seq.p rfl (Ev.cutHi (h := 0) sl.sl_uint8) ?_
      refine Seq.re (fun w h => Upd.own0 h At.z) ?_
      refine Seq.p rfl Ev.assign ?_
      refine Seq.nil ?_
      refine JC.rs ?_
      refine Seq.p rfl Ev.move ?_
      refine Seq.p rfl Ev.assign ?_
      refine Seq.nil ?_
      refine JC.ret ?_
      show retQ _ _ _ _ _ _ _ _
      refine ret1 (hp := Part.refl _) (hpost := ?_)
      exact ⟨_, _, rfl, rfl⟩
    · -- else_t16
      obtain rfl : m = 0 := by omega
      refine JC.re (fun w h => Upd.nilOwn h 5 1) ?_
      refine JC.skip ?_
      refine JC.rs ?_
      refine Seq.p rfl Ev.move ?_
      refine Seq.p rfl Ev.assign ?_
      refine Seq.nil ?_
      refine JC.ret ?_
      show retQ _ _ _ _ _ _ _ _
      refine ret1 (hp := Part.refl _) (hpost := ?_)
      exact ⟨_, _, rfl, rfl⟩
set_option maxHeartbeats 1000000 in
set_option maxRecDepth 100000 in
theorem concatBytes {w : World} {v : Value} {ps : List Sb} (hr : RSl Sb.enc 1 w [] v ps) (hp : ∀ p ∈ ps, RSl byteEnc 1 w [] p.v p.l) (hs : (ps.flatMap (·.l)).length ≤ 70368744177664) :
    Spec Go.Proofs.Tryz.prog 59 #[v] w [] (fun u H' => ∃ A c, u = .slice A (ps.flatMap (·.l)).length c ∧ H' = [bytesC (.slice A (ps.flatMap (·.l)).length c) (ps.flatMap (·.l))]) := by
  have hsm := hr.small
  refine Spec.enter (fn := Go.Proofs.Tryz.f59) (n := 36) [v] Go.Proofs.Tryz.func59 (by kernel_rfl) rfl Go.Proofs.Tryz.ntmps59 Go.Proofs.Tryz.results59 rfl (Own.nil _) ?_
  refine JC.rs ?_
  refine Seq.p rfl Ev.assign ?_
  refine Seq.nil ?_
  refine JC.rs ?_
  refine Seq.p rfl Ev.assign ?_
  refine Seq.nil ?_
  refine JC.seq ?_
  refine JC.rs ?_
  refine Seq.p rfl Ev.move ?_
  refine Seq.p rfl (Ev.lenSl sl.sl_sl_uint8 (hr := hr.r)) ?_
  refine Seq.p rfl Ev.move ?_
  refine Seq.nil ?_
  refine JC.blk ?_
  refine JC.loop (α := Nat) (I := fun i e1 H1 => Has [3, 5, 11, 12, 13, 14, 15, 16, 17, 18, 19, 20, 21, 22] [(3, .int .i64 (((ps.take i).flatMap (·.l)).length : Int)), (11, .int .i64 (i : Int))] _ e1 ∧ H1 = _ ∧ i ≤ ps.length) (μ := fun i => ps.length - i) 0 ⟨Has.mk Off.refl (allLook_cons (by repeat (first | exact Look.here | apply Look.there (hne := rfl) | exact Look.const | apply Look.mix rfl | exact Look.arg0 | apply Look.args | exact Look.func)) (allLook_cons (by repeat (first | exact Look.here | apply Look.there (hne := rfl) | exact Look.const | apply Look.mix rfl | exact Look.arg0 | apply Look.args | exact Look.func)) allLook_nil)), rfl, by omega⟩ ?_
  rintro i _ _ ⟨⟨u, rfl⟩, rfl, hi⟩; dsimp only [setL]
  refine JC.rs ?_
  refine Seq.p rfl Ev.lt ?_
  refine Seq.nil ?_
  refine JC.seq ?_
  first | refine JC.c (ht := fun c12 => ?_) (hf := fun c12 => ?_) | refine JC.cb (ht := fun c12 => ?_) (hf := fun c12 => ?_)
  · -- then_t12
    have hi2 : i < ps.length := by omega
    have hft := flat_take (·.l) hi2
    have hfl := flat_le (·.l) ps (i + 1)
    have hfl2 := congrArg List.length hft
    rw [List.length_append] at hfl2
    have hpi := hp _ (get_memS hi2)
    refine JC.skip ?_
    refine JC.seq ?_
    refine JC.blk ?_
    refine JC.rs ?_
    refine Seq.p rfl (Ev.iaN sl.sl_sl_uint8 (hr := hr.r)) ?_
    refine Seq.p rfl (Ev.ldE1 sc.sl_uint8 (hr := hr.r)) ?_
    refine Seq.p rfl Ev.assign ?_
    refine Seq.nil ?_
    refine JC.rs ?_
    refine Seq.p rfl Ev.move ?_
    refine Seq.p rfl Ev.move ?_
    refine Seq.p rfl (Ev.lenSl sl.sl_uint8 (hr := hpi.r)) ?_
    refine Seq.p rfl (Ev.addN (m := ((ps.take i).flatMap (·.l)).length) (c := (ps[i]!).l.length)) ?_
    refine Seq.p rfl Ev.assign ?_
    refine Seq.nil ?_
    refine JC.rs ?_
    refine Seq.p rfl Ev.move ?_
    refine Seq.p rfl Ev.lt ?_
    refine Seq.nil ?_
    first | refine JC.c (ht := fun c20 => ?_) (hf := fun c20 => ?_) | refine JC.cb (ht := fun c20 => ?_) (hf := fun c20 => ?_)
    · -- then_t20
      exfalso; omega
    · -- else_t20
      refine JC.skip ?_
      refine JC.reg ?_
      refine Seq.p rfl (by first | exact Ev.inc | exact Ev.add) ?_
      refine Seq.p rfl Ev.move ?_
      refine Seq.nil ?_
      exact ⟨i + 1, _, Part.refl _, ⟨Has.mk (by repeat (first | refine Off.upd ?_ rfl | exact Off.mix | refine Off.mix2 ?_ rfl | exact Off.refl)) (allLook_cons (by rw [hfl2]; exact (by repeat (first | exact Look.here | apply Look.there (hne := rfl) | exact Look.const | apply Look.mix rfl | exact Look.arg0 | apply Look.args | exact Look.func))) (allLook_cons (by repeat (first | exact Look.here | apply Look.there (hne := rfl) | exact Look.const | apply Look.mix rfl | exact Look.arg0 | apply Look.args | exact Look.func)) allLook_nil)), rfl, by omega⟩, by omega⟩
  · -- else_t12
    obtain rfl : i = ps.length := by omega
    rw [List.take_length]
    refine JC.exit ?_ -- 0
    refine JC.rs ?_
    refine Seq.p rfl Ev.move ?_
    obtain ⟨m, hm⟩ : ∃ m, m = (ps.flatMap (·.l)).length := ⟨_, rfl⟩
    rw [← hm]
    refine Seq.call rfl (fun w' hw => growNilB (m := m) (by omega)) (F := []) (by exact List.Perm.refl _) ?_
    rintro _ _ ⟨A24, c24, rfl, rfl⟩
    simp only [List.cons_append, List.nil_append]
    refine Seq.p rfl Ev.assign ?_
    refine Seq.nil ?_
    refine JC.seq ?_
    refine JC.rs ?_
    refine Seq.p rfl Ev.move ?_
    refine Seq.p rfl (Ev.lenSl sl.sl_sl_uint8 (hr := hr.r)) ?_
    refine Seq.p rfl Ev.move ?_
    refine Seq.nil ?_
    refine JC.blk ?_
    refine JC.loop (α := Nat) (I := fun i e1 H1 => ∃ A c, Has [6, 8, 27, 28, 29, 30, 31, 32, 33, 34] [(6, .slice A ((ps.take i).flatMap (·.l)).length c), (27, .int .i64 (i : Int))] _ e1 ∧ H1 = [bytesC (.slice A ((ps.take i).flatMap (·.l)).length c) ((ps.take i).flatMap (·.l))] ∧ i ≤ ps.length) (μ := fun i => ps.length - i) 0 ⟨A24, c24, Has.mk Off.refl (allLook_cons (by repeat (first | exact Look.here | apply Look.there (hne := rfl) | exact Look.const | apply Look.mix rfl | exact Look.arg0 | apply Look.args | exact Look.func)) (allLook_cons (by repeat (first | exact Look.here | apply Look.there (hne := rfl) | exact Look.const | apply Look.mix rfl | exact Look.arg0 | apply Look.args | exact Look.func)) allLook_nil)), rfl, by omega⟩ ?_
    rintro i _ _ ⟨A, c, ⟨u2, rfl⟩, rfl, hi⟩; dsimp only [setL]
    refine JC.rs ?_
    refine Seq.p rfl Ev.lt ?_
    refine Seq.nil ?_
    refine JC.seq ?_
    first | refine JC.c (ht := fun c28 => ?_) (hf := fun c28 => ?_) | refine JC.cb (ht := fun c28 => ?_) (hf := fun c28 => ?_)
    · -- then_t28
      have hi2 : i < ps.length := by omega
      have hft := flat_take (·.l) hi2
      have hfl := flat_le (·.l) ps (i + 1)
      have hfl2 := congrArg List.length hft
      rw [List.length_append] at hfl2
      have hpi := hp _ (get_memS hi2)
      refine JC.skip ?_
      refine JC.seq ?_
      refine JC.blk ?_
      refine JC.rs ?_
      refine Seq.p rfl (Ev.iaN sl.sl_sl_uint8 (hr := hr.r)) ?_
      refine Seq.p rfl (Ev.ldE1 sc.sl_uint8 (hr := hr.r)) ?_
      refine Seq.p rfl Ev.assign ?_
      refine Seq.nil ?_
      refine JC.reg ?_
      refine Seq.p rfl Ev.move ?_
      refine Seq.p rfl Ev.move ?_
      refine Seq.append (hsl := sl.sl_uint8) (he := el.uint8) (hsrc := (fun w' hw => Src.rsl sl.sl_uint8 (hpi.up hw) (by omega) byteOne)) (k := ?_); intro A33 c33
      refine Seq.p rfl Ev.assign ?_
      refine Seq.nil ?_
      refine JC.reg ?_
      refine Seq.p rfl (by first | exact Ev.inc | exact Ev.add) ?_
      refine Seq.p rfl Ev.move ?_
      refine Seq.nil ?_
      refine ⟨i + 1, _, Part.refl _, ⟨A33, c33, Has.mk (by repeat (first | refine Off.upd ?_ rfl | exact Off.mix | refine Off.mix2 ?_ rfl | exact Off.refl)) (allLook_cons (by rw [hfl2]; exact (by repeat (first | exact Look.here | apply Look.there (hne := rfl) | exact Look.const | apply Look.mix rfl | exact Look.arg0 | apply Look.args | exact Look.func))) (allLook_cons (by repeat (first | exact Look.here | apply Look.there (hne := rfl) | exact Look.const | apply Look.mix rfl | exact Look.arg0 | apply Look.args | exact Look.func)) allLook_nil)), ?_, by omega⟩, by omega⟩
      rw [hft, bytesC_append _ _ _ _ rfl, List.length_append]
      rfl
    · -- else_t28
      obtain rfl : i = ps.length := by omega
      rw [List.take_length]
      refine JC.exit ?_ -- 2
      refine JC.rs ?_
      refine Seq.p rfl Ev.move ?_
      refine Seq.p rfl Ev.assign ?_
      refine Seq.nil ?_
      refine JC.ret ?_
      show retQ _ _ _ _ _ _ _ _
      refine ret1 (hp := Part.refl _) (hpost := ?_)
      subst hm
      exact ⟨A, c, rfl, rfl⟩
set_option maxHeartbeats 1000000 in
set_option maxRecDepth 100000 in
theorem textField {w : World} {n : Nat} {v : ByteArray} (hn : n < 10000) (hv : v.size ≤ 70368744177664) (hL : LaidT w) :
    Spec Go.Proofs.Tryz.prog 57 #[.int .i64 (n : Int), .string v] w [] (fun u H' => ∃ A c, u = .slice A (fieldL n v).length c ∧ H' = [bytesC (.slice A (fieldL n v).length c) (fieldL n v)]) := by
  have hd4 := decL_four hn
  have hi : (⟨(itoa (n : Int)).toArray⟩ : ByteArray) = decS n := by rw [itoa_nonneg]; rfl
  have hds : (decS n).size = (decL n).length := by rw [← strOf_dec, strOf_size]
  have hss : (decS n ++ ⟨#[61]⟩ ++ v).size = (fldL n v).length := by
    rw [ByteArray.size_append, ByteArray.size_append, hds, fld_len]
    rfl
  have hbo : bytesOf (decS n ++ ⟨#[61]⟩ ++ v) = fldL n v := by
    rw [bytesOf_app, bytesOf_app, bytesOf_dec]
    unfold fldL
    rw [List.append_assoc]
    rfl
  have hfl := fld_len n v
  refine Spec.enter (fn := Go.Proofs.Tryz.f57) (n := 13) [.int .i64 (n : Int), .string v] Go.Proofs.Tryz.func57 (by kernel_rfl) rfl Go.Proofs.Tryz.ntmps57 Go.Proofs.Tryz.results57 rfl (Own.nil _) ?_
  refine JC.rs ?_
  refine Seq.p rfl Ev.assign ?_
  refine Seq.nil ?_
  refine JC.rs ?_
  refine Seq.p rfl Ev.move ?_
  refine Seq.callP rfl (fun w hw => hi ▸ textItoa (by omega) (by omega) (hL.upd hw)) ?_
  refine Seq.p rfl (Ev.addStr (h := by rw [hds]; show _ + 1 ≤ _; omega)) ?_
  refine Seq.p rfl Ev.move ?_
  refine Seq.p rfl (Ev.addStr (h := by rw [ByteArray.size_append, hds]; show _ + 1 + _ ≤ _; omega)) ?_
  refine Seq.strBytes (hs := st.string) (hd := sl.sl_uint8) (he := it.uint8) (hsz := by omega) (k := ?_); intro b10 c10
  rw [hss, hbo]
  refine Seq.buildSlN [_] (hsl := sl.sl_uint8) (hz := z.uint8) (k := ?_); intro b11
  refine Seq.append (hsl := sl.sl_uint8) (he := el.uint8) (hsrc := (fun w' hw => Src.box (hl := by rfl) (hc := fun q u hu => hu) sl.sl_uint8 At.z hw)) (k := ?_); intro A12 c12
  refine Seq.p rfl Ev.assign ?_
  refine Seq.nil ?_
  refine JC.ret ?_
  show retQ _ _ _ _ _ _ _ _
  refine ret1 (hp := Part.skip (Part.refl _)) (hpost := ?_)
  refine ⟨A12, c12, ?_, ?_⟩
  · unfold fieldL; rw [List.length_append]; rfl
  · unfold fieldL; rw [bytesC_append _ _ _ _ rfl, List.length_append]; rfl
end Go.Rx
/- The program's Encode is the plain function. -/
namespace Go.Rx
open Go Go.RowKit Go.Lib Go.Proofs.YthpejgmkiomfhaaGreatDoor
set_option linter.unusedVariables false
set_option linter.unusedSimpArgs false
def bodyTo (kind : ByteArray) (xs : List Tg) (i : Nat) : List Int := fieldL 35 kind ++ (xs.take i).flatMap fun t => fieldL t.tag.toNat t.value
theorem bodyTo_succ {kind : ByteArray} {xs : List Tg} {i : Nat} (h : i < xs.length) : bodyTo kind xs (i + 1) = bodyTo kind xs i ++ fieldL (xs[i]!).tag.toNat (xs[i]!).value := by
  unfold bodyTo
  rw [flat_take _ h, List.append_assoc]
theorem bodyTo_le (kind : ByteArray) (xs : List Tg) (i : Nat) : (bodyTo kind xs i).length ≤ (bodyL kind xs).length := by
  unfold bodyTo bodyL
  rw [List.length_append, List.length_append]
  have := flat_le (fun t : Tg => fieldL t.tag.toNat t.value) xs i
  omega
theorem bodyTo_all (kind : ByteArray) (xs : List Tg) : bodyTo kind xs xs.length = bodyL kind xs := by
  unfold bodyTo bodyL
  rw [List.take_length]
theorem bytesOf_begin : bytesOf beginS = beginL := by decide
theorem encE_bad {xs : List Tg} {i : Nat} (hi : i < xs.length) (h : refusedF (xs.take i) xs[i]! ≠ 0) : encE (xs.take i) (xs.drop i) = refusedF (xs.take i) xs[i]! := by
  rw [List.drop_eq_getElem_cons hi, ← getElem!_pos xs i hi]
  unfold encE
  exact if_pos h
theorem encE_next {xs : List Tg} {i : Nat} (hi : i < xs.length) (h : ¬ refusedF (xs.take i) xs[i]! ≠ 0) : encE (xs.take i) (xs.drop i) = encE (xs.take (i + 1)) (xs.drop (i + 1)) := by
  rw [List.drop_eq_getElem_cons hi, ← getElem!_pos xs i hi, List.take_succ_eq_append_getElem hi, ← getElem!_pos xs i hi]
  conv => lhs; unfold encE
  exact if_neg h
theorem encF_kind {kind : ByteArray} {xs : List Tg} (h : kindB kind = false) : encF kind xs = (3, []) := if_pos h
theorem encF_many {kind : ByteArray} {xs : List Tg} (h : ¬ kindB kind = false) (h1 : 64 < xs.length) : encF kind xs = (2, []) := by unfold encF; rw [if_neg h, if_pos h1]
theorem encF_ref {kind : ByteArray} {xs : List Tg} (h : ¬ kindB kind = false) (h1 : ¬ 64 < xs.length) (h2 : encE [] xs ≠ 0) : encF kind xs = (encE [] xs, []) := by unfold encF; rw [if_neg h, if_neg h1, if_pos h2]
theorem encF_long {kind : ByteArray} {xs : List Tg} (h : ¬ kindB kind = false) (h1 : ¬ 64 < xs.length) (h2 : ¬ encE [] xs ≠ 0) (h3 : 2048 < (lineL kind xs).length) : encF kind xs = (2, []) := by unfold encF; rw [if_neg h, if_neg h1, if_neg h2, if_pos h3]
theorem encF_line {kind : ByteArray} {xs : List Tg} (h : ¬ kindB kind = false) (h1 : ¬ 64 < xs.length) (h2 : ¬ encE [] xs ≠ 0) (h3 : ¬ 2048 < (lineL kind xs).length) : encF kind xs = (0, lineL kind xs) := by unfold encF; rw [if_neg h, if_neg h1, if_neg h2, if_neg h3]
theorem decL_nineteen {n : Nat} (h : n ≤ 1099511627776) : (decL n).length ≤ 19 := by
  have h1 := natF_dec (n := n) (by omega)
  have h2 : (decL n).length ≤ 20 := by
    unfold natF at h1
    split at h1
    · cases h1
    · rename_i hc
      rw [strOf_size] at hc
      omega
  rcases Nat.lt_or_ge (decL n).length 20 with h3 | h3
  · omega
  · exfalso
    have s : ∀ k : Nat, ¬ k < 10 → (decDigits k).length = (decDigits (k / 10)).length + 1 := fun k hk => by
      rw [decDigits, dif_neg hk, List.length_append]
      rfl
    have e : ∀ k : Nat, k < 10 → (decDigits k).length = 1 := fun k hk => by rw [decDigits_one hk]; rfl
    have key : ∀ m k : Nat, k < 10 ^ (m + 1) → (decDigits k).length ≤ m + 1 := by
      intro m
      induction m with
      | zero => intro k hk; rw [e k (by simpa using hk)]; exact Nat.le_refl _
      | succ m ih =>
        intro k hk
        by_cases h1 : k < 10
        · rw [e k h1]; omega
        · rw [s k h1]
          have := ih (k / 10) (by rw [Nat.pow_succ] at hk; omega)
          omega
    have h4 := key 18 n (by have : (10 : Nat) ^ (18 + 1) = 10000000000000000000 := by decide
                            omega)
    have h5 : (decL n).length = (decDigits n).length := by unfold decL; rw [List.length_map]
    omega
set_option maxHeartbeats 1000000 in
set_option maxRecDepth 100000 in
theorem textEncode {w : World} {v : Value} {kind : ByteArray} {xs : List Tg} (hr : RSl Tg.enc 2 w [] v xs) (hk : kind.size ≤ 281474976710656) (hsz : ∀ t ∈ xs, t.value.size ≤ 70368744177664) (hb : (bodyL kind xs).length ≤ 1099511627776) (hL : LaidT w) :
    Spec Go.Proofs.Tryz.prog 37 #[.string kind, v] w [] (fun u H' => ∃ A c, u = .tuple #[.slice A (encF kind xs).2.length c, .int .i64 (encF kind xs).1] ∧ H' = [bytesC (.slice A (encF kind xs).2.length c) (encF kind xs).2]) := by
  have hsm := hr.small
  obtain ⟨ec, eb, hef⟩ : ∃ a b, encF kind xs = (a, b) := ⟨_, _, rfl⟩
  rw [hef]
  obtain ⟨f35, hf35⟩ : ∃ f, f = fieldL 35 kind := ⟨_, rfl⟩
  obtain ⟨body, hbody⟩ : ∃ f, f = bodyL kind xs := ⟨_, rfl⟩
  obtain ⟨ds, hds0⟩ : ∃ f, f = beginL ++ decL body.length := ⟨_, rfl⟩
  obtain ⟨front, hfront⟩ : ∃ f, f = frontL kind xs := ⟨_, rfl⟩
  obtain ⟨la, hla⟩ : ∃ f, f = lastL front := ⟨_, rfl⟩
  obtain ⟨line, hline⟩ : ∃ f, f = lineL kind xs := ⟨_, rfl⟩
  have hll : line = front ++ la := by rw [hline, hla, hfront]; rfl
  have hl7 : la.length = 7 := by rw [hla]; rfl
  have hll3 : line.length = front.length + 7 := by rw [hll, List.length_append, hl7]
  have hd19 := decL_nineteen hb
  have hfl := front_len kind xs
  rw [← hfront] at hfl
  rw [← hbody] at hb hd19 hfl
  have hdl : ds.length = 10 + (decL body.length).length := by rw [hds0, List.length_append]; rfl
  have hdz : (decS body.length).size = (decL body.length).length := by rw [← strOf_dec, strOf_size]
  have hit : (⟨(itoa (body.length : Int)).toArray⟩ : ByteArray) = decS body.length := by rw [itoa_nonneg]; rfl
  have hss : (beginS ++ decS body.length).size = ds.length := by rw [ByteArray.size_append, hdl, hdz]; rfl
  have hbo : bytesOf (beginS ++ decS body.length) = ds := by rw [bytesOf_app, bytesOf_dec, bytesOf_begin, hds0]
  have hfe : front = ds ++ [1] ++ body := by rw [hfront, hds0, hbody]; rfl
  have hBl : isBytes la := by rw [hla]; exact isBytes_last _
  have hfB : isBytes front := by
    rw [hfe]
    intro x hx
    rcases List.mem_append.1 hx with hx | hx
    · rcases List.mem_append.1 hx with hx | hx
      · rw [hds0] at hx
        rcases List.mem_append.1 hx with hx | hx
        · have hbb : isBytes beginL := by
            intro x hx
            simp only [beginL, List.mem_cons, List.not_mem_nil, or_false] at hx
            omega
          exact hbb x hx
        · exact decL_bytes _ x hx
      · rw [List.mem_singleton.1 hx]; decide
    · have hfb : ∀ (n : Nat) (v : ByteArray), isBytes (fieldL n v) := fun n v y hy => by
        unfold fieldL fldL at hy
        rcases List.mem_append.1 hy with hy | hy
        · rcases List.mem_append.1 hy with hy | hy
          · exact decL_bytes _ y hy
          · rcases List.mem_cons.1 hy with rfl | hy
            · decide
            · exact bytesOf_range _ y hy
        · rw [List.mem_singleton.1 hy]; decide
      rw [hbody] at hx
      unfold bodyL at hx
      rcases List.mem_append.1 hx with hx | hx
      · exact hfb _ _ x hx
      · obtain ⟨t, _, ht⟩ := List.mem_flatMap.1 hx
        exact hfb _ _ x ht
  have hsl : strOf la = strOf (lastL front) := by rw [hla]
  have hslz : (strOf la).size = la.length := strOf_size la
  have hslb : bytesOf (strOf la) = la := bytesOf_str hBl
  refine Spec.enter (fn := Go.Proofs.Tryz.f37) (n := 61) [.string kind, v] Go.Proofs.Tryz.func37 (by kernel_rfl) rfl Go.Proofs.Tryz.ntmps37 Go.Proofs.Tryz.results37 rfl (Own.nil _) ?_
  refine JC.re (fun w h => h.nilOwn 5 1) ?_
  refine JC.rs ?_
  refine Seq.p rfl Ev.assign ?_
  refine Seq.p rfl Ev.assign ?_
  refine Seq.nil ?_
  refine JC.seq ?_
  refine JC.blk ?_
  refine JC.rs ?_
  refine Seq.p rfl Ev.move ?_
  refine Seq.callP rfl (fun w hw => textIsKind hk) ?_
  refine Seq.p rfl Ev.not ?_
  refine Seq.p rfl Ev.assign ?_
  refine Seq.nil ?_
  first | refine JC.c (ht := fun c11 => ?_) (hf := fun c11 => ?_) | refine JC.cb (ht := fun c11 => ?_) (hf := fun c11 => ?_)
  · -- then_t11
    have h1 : kindB kind = false := by simpa using c11
    refine JC.rs ?_
    refine Seq.p rfl Ev.assign ?_
    refine Seq.p rfl Ev.assign ?_
    refine Seq.nil ?_
    refine JC.ret ?_
    show retQ _ _ _ _ _ _ _ _
    refine ret2 (H' := [bytesC (.slice none 0 0) []]) (hp := (by repeat (first | exact Part.nil _ | refine Part.at (by repeat (first | exact At.z | apply At.s)) ?_))) (hpost := ?_)
    rw [encF_kind h1] at hef
    cases hef
    exact ⟨none, 0, rfl, rfl⟩
  · -- else_t11
    have h1 : ¬ kindB kind = false := by simpa using c11
    refine JC.rs ?_
    refine Seq.p rfl Ev.move ?_
    refine Seq.p rfl (Ev.lenSl sl.sl_api_Tag (hr := hr.r)) ?_
    refine Seq.p rfl Ev.gt ?_
    refine Seq.p rfl Ev.assign ?_
    refine Seq.nil ?_
    first | refine JC.c (ht := fun c15 => ?_) (hf := fun c15 => ?_) | refine JC.cb (ht := fun c15 => ?_) (hf := fun c15 => ?_)
    · -- then_t15
      refine JC.rs ?_
      refine Seq.p rfl Ev.assign ?_
      refine Seq.p rfl Ev.assign ?_
      refine Seq.nil ?_
      refine JC.ret ?_
      show retQ _ _ _ _ _ _ _ _
      refine ret2 (H' := [bytesC (.slice none 0 0) []]) (hp := (by repeat (first | exact Part.nil _ | refine Part.at (by repeat (first | exact At.z | apply At.s)) ?_))) (hpost := ?_)
      rw [encF_many h1 (by omega)] at hef
      cases hef
      exact ⟨none, 0, rfl, rfl⟩
    · -- else_t15
      have h2 : ¬ 64 < xs.length := by omega
      have hb0 : bodyTo kind xs 0 = f35 := by rw [hf35]; simp [bodyTo]
      have hkz : kind.size ≤ 70368744177664 := by
        have h5 := bodyTo_le kind xs 0
        rw [hb0, hf35, field_len, ← hbody] at h5
        omega
      refine JC.skip ?_
      refine JC.rs ?_
      refine Seq.p rfl Ev.move ?_
      refine Seq.call rfl (fun w' hw => by have h := textField (n := 35) (by decide) hkz (hL.upd hw); rw [← hf35] at h; exact h) (F := _) (by exact List.Perm.refl _) ?_
      rintro _ _ ⟨A20, c20, rfl, rfl⟩
      simp only [List.cons_append, List.nil_append]
      refine Seq.p rfl Ev.assign ?_
      refine Seq.nil ?_
      refine JC.seq ?_
      refine JC.rs ?_
      refine Seq.p rfl Ev.move ?_
      refine Seq.p rfl (Ev.lenSl sl.sl_api_Tag (hr := hr.r)) ?_
      refine Seq.p rfl Ev.move ?_
      refine Seq.nil ?_
      refine JC.blk ?_
      refine JC.loop (α := Nat) (I := fun i e1 H1 => ∃ A c m, Has [4, 5, 6, 7, 8, 9, 23, 24, 25, 26, 27, 28, 29, 30, 31, 32, 33, 34, 35, 36, 37, 38, 39, 40, 41, 42, 43] [(6, .slice A m.length c), (23, .int .i64 (i : Int))] _ e1 ∧ H1 = [bytesC (.slice A m.length c) m, bytesC (.slice none 0 0) []] ∧ i ≤ xs.length ∧ encE (xs.take i) (xs.drop i) = encE [] xs ∧ m = bodyTo kind xs i) (μ := fun i => xs.length - i) 0 ⟨A20, c20, f35, Has.mk Off.refl (allLook_cons (by repeat (first | exact Look.here | apply Look.there (hne := rfl) | exact Look.const | apply Look.mix rfl | exact Look.arg0 | apply Look.args | exact Look.func)) (allLook_cons (by repeat (first | exact Look.here | apply Look.there (hne := rfl) | exact Look.const | apply Look.mix rfl | exact Look.arg0 | apply Look.args | exact Look.func)) allLook_nil)), rfl, by omega, rfl, hb0.symm⟩ ?_
      rintro i _ _ ⟨A, c, m, ⟨u, rfl⟩, rfl, hi, he, hm⟩; dsimp only [setL]
      refine JC.rs ?_
      refine Seq.p rfl Ev.lt ?_
      refine Seq.nil ?_
      refine JC.seq ?_
      first | refine JC.c (ht := fun c24 => ?_) (hf := fun c24 => ?_) | refine JC.cb (ht := fun c24 => ?_) (hf := fun c24 => ?_)
      · -- then_t24
        have hi2 : i < xs.length := by omega
        have htake : RSl Tg.enc 2 w [] (subSl v 0 i 2) (xs.take i) := by
          have h3 := hr.sub (lo := 0) (hi := i) (by omega) (by omega)
          rwa [List.drop_zero] at h3
        have hvs := hsz _ (get_memS hi2)
        refine JC.skip ?_
        refine JC.seq ?_
        refine JC.blk ?_
        refine JC.rs ?_
        refine Seq.p rfl Ev.move ?_
        refine Seq.p rfl (Ev.iaN sl.sl_api_Tag (hr := hr.r)) ?_
        refine Seq.p rfl (Ev.ldEA ag.api_Tag (hr := hr.r)) ?_
        refine Seq.alloc (cs := [_, _]) (hz := z.api_Tag) (k := ?_); intro b8
        refine Seq.p rfl Ev.assign ?_
        refine Seq.storeN [_, _] sz.api_Tag (k := ?_)
        refine Seq.nil ?_
        refine JC.seq ?_
        refine JC.qs mixed (by kernel_rfl) ?_
        refine Qui.p rfl Ev.move ?_
        refine Qui.p rfl Ev.move ?_
        refine Qui.p rfl (Ev.cut sl.sl_api_Tag (hr := hr.r) (l := 0) (h := i) (hlo := rfl) (hhi := ⟨_, (by repeat (first | exact Look.here | apply Look.there (hne := rfl) | exact Look.const | apply Look.mix rfl | exact Look.arg0 | apply Look.args | exact Look.func))⟩)) ?_
        refine Qui.p rfl (Ev.ldBA ag.api_Tag) ?_
        refine Qui.call rfl (fun w hw => textRefused (t := xs[i]!) (htake.up hw) (by omega)) ?_
        refine Qui.p rfl Ev.assign ?_
        refine Qui.nil ?_
        refine JC.rs ?_
        refine Seq.p rfl Ev.move ?_
        refine Seq.p rfl Ev.ne ?_
        refine Seq.nil ?_
        first | refine JC.c (ht := fun c34 => ?_) (hf := fun c34 => ?_) | refine JC.cb (ht := fun c34 => ?_) (hf := fun c34 => ?_)
        · -- then_t34
          refine JC.rs ?_
          refine Seq.p rfl Ev.move ?_
          refine Seq.p rfl Ev.assign ?_
          refine Seq.p rfl Ev.assign ?_
          refine Seq.nil ?_
          refine JC.ret ?_
          show retQ _ _ _ _ _ _ _ _
          refine ret2 (H' := [bytesC (.slice none 0 0) []]) (hp := (by repeat (first | exact Part.nil _ | refine Part.at (by repeat (first | exact At.z | apply At.s)) ?_))) (hpost := ?_)
          have h4 := encE_bad hi2 c34
          rw [encF_ref h1 h2 (by rw [← he, h4]; exact c34), ← he, h4] at hef
          cases hef
          exact ⟨none, 0, rfl, rfl⟩
        · -- else_t34
          have h4 := encE_next hi2 c34
          obtain ⟨q1, q2, q3⟩ := refused_ok (Classical.not_not.1 c34)
          obtain ⟨g1, g2, g3⟩ := tag_range q1
          have hbs := bodyTo_succ (kind := kind) hi2
          have hbl := bodyTo_le kind xs (i + 1)
          obtain ⟨fl, hfl2⟩ : ∃ f, f = fieldL (xs[i]!).tag.toNat (xs[i]!).value := ⟨_, rfl⟩
          rw [← hm, ← hfl2] at hbs
          rw [hbs, List.length_append, ← hbody] at hbl
          refine JC.skip ?_
          refine JC.reg ?_
          refine Seq.p rfl Ev.move ?_
          refine Seq.p rfl (Ev.faB fd.api_Tag_0) ?_
          refine Seq.p rfl (Ev.ldB sc.int) ?_
          refine Seq.p rfl (Ev.faB fd.api_Tag_1) ?_
          refine Seq.p rfl (Ev.ldB sc.string) ?_
          refine Seq.call rfl (fun w' hw => by have h := textField (n := (xs[i]!).tag.toNat) g2 hvs (hL.upd hw); rw [← hfl2, g1] at h; exact h) (F := _) (by exact List.Perm.refl _) ?_
          rintro _ _ ⟨A41, c41, rfl, rfl⟩
          simp only [List.cons_append, List.nil_append]
          refine Seq.append (hsl := sl.sl_uint8) (he := el.uint8) (hH := At.s (At.s At.z)) (hsrc := fun w' hw => Src.rsl sl.sl_uint8 (RAt.up (RAt.own (enc := byteEnc) (xs := fl)) hw) (by omega) byteOne) (k := ?_); intro A42 c42
          rw [← bytesC_append (.slice A42 (m.length + fl.length) c42) m fl _ rfl, ← List.length_append]
          refine Seq.p rfl Ev.assign ?_
          refine Seq.nil ?_
          refine JC.reg ?_
          refine Seq.p rfl (by first | exact Ev.inc | exact Ev.add) ?_
          refine Seq.p rfl Ev.move ?_
          refine Seq.nil ?_
          exact ⟨i + 1, [bytesC (.slice A42 (m ++ fl).length c42) (m ++ fl), bytesC (.slice none 0 0) []], (by repeat (first | exact Part.nil _ | refine Part.at (by repeat (first | exact At.z | apply At.s)) ?_)), ⟨A42, c42, m ++ fl, Has.mk (by repeat (first | refine Off.upd ?_ rfl | exact Off.mix | refine Off.mix2 ?_ rfl | exact Off.refl)) (allLook_cons (by repeat (first | exact Look.here | apply Look.there (hne := rfl) | exact Look.const | apply Look.mix rfl | exact Look.arg0 | apply Look.args | exact Look.func)) (allLook_cons (by repeat (first | exact Look.here | apply Look.there (hne := rfl) | exact Look.const | apply Look.mix rfl | exact Look.arg0 | apply Look.args | exact Look.func)) allLook_nil)), rfl, by omega, by rw [← h4]; exact he, hbs.symm⟩, by omega⟩
      · -- else_t24
        obtain rfl : i = xs.length := by omega
        obtain rfl : m = body := by rw [hm, hbody]; exact bodyTo_all kind xs
        rw [List.take_length, List.drop_length] at he
        have h3 : ¬ encE [] xs ≠ 0 := fun h => h (by rw [← he]; rfl)
        refine JC.exit ?_ -- 1
        refine JC.rs ?_
        refine Seq.p rfl Ev.move ?_
        refine Seq.p rfl (Ev.lenSl sl.sl_uint8 (hr := RAt.own (enc := byteEnc) (xs := m))) ?_
        refine Seq.callP rfl (fun w hw => hit ▸ textItoa (by omega) (by omega) (hL.upd hw)) ?_
        refine Seq.p rfl (Ev.addStr (h := by rw [hdz]; show 10 + _ ≤ _; omega)) ?_
        refine Seq.strBytes (hs := st.string) (hd := sl.sl_uint8) (he := it.uint8) (hsz := by show (beginS ++ decS m.length).size ≤ _; omega) (k := ?_); intro b48 c48
        rw [hss, hbo]
        refine Seq.buildSlN _ (hsl := sl.sl_uint8) (hz := z.uint8) (k := ?_); intro b49
        refine Seq.re (fun w h => Upd.boxOwn h (n := 1) (size := 1) At.z rfl (by omega)) ?_
        refine Seq.p rfl Ev.move ?_
        refine Seq.buildSlN [_, _, _] (hsl := sl.sl_sl_uint8) (hz := z.sl_uint8) (k := ?_); intro b51
        obtain ⟨ps, hps⟩ : ∃ ps : List Sb, ps = [⟨.slice (some ⟨b48, 0, none⟩) ds.length c48, ds⟩, ⟨.slice (some ⟨b49, 0, none⟩) 1 1, [1]⟩, ⟨.slice A m.length c, m⟩] := ⟨_, rfl⟩
        have hpf : ps.flatMap (·.l) = front := by rw [hps, hfe]; simp [List.flatMap_cons]
        refine Seq.call rfl (fun w' hw => by
          have h7 := concatBytes (w := w') (v := .slice (some ⟨b51, 0, none⟩) 3 3) (ps := ps) (RAt.up (RAt.box (enc := Sb.enc) (xs := ps) (m := 3) (hH := At.z) (hcs := by rw [hps]; rfl) (hm := by rw [hps]; rfl) (hs := by rw [hps]; show 3 ≤ 4611686018427387904; decide)) hw) (by
            intro p hp
            rw [hps] at hp
            simp only [List.mem_cons, List.not_mem_nil, or_false] at hp
            rcases hp with rfl | rfl | rfl
            · exact RAt.up (RAt.own (enc := byteEnc) (xs := ds)) hw
            · exact RAt.up (RAt.own (enc := byteEnc) (xs := [1]) (hs := by decide)) hw
            · exact RAt.up (RAt.own (enc := byteEnc) (xs := m)) hw) (by rw [hpf]; omega)
          rw [hpf] at h7
          exact h7) (F := _) (by exact List.Perm.refl _) ?_
        rintro _ _ ⟨A52, c52, rfl, rfl⟩
        simp only [List.cons_append, List.nil_append]
        refine Seq.p rfl Ev.assign ?_
        refine Seq.nil ?_
        refine JC.rs ?_
        refine Seq.p rfl Ev.move ?_
        refine Seq.p rfl Ev.move ?_
        refine Seq.callP (v := .string (strOf la)) rfl (fun w' hw => by have h := textLast (RAt.up (RAt.own (enc := byteEnc) (xs := front)) hw) hfB (hL.upd hw); rw [← hsl] at h; exact h) ?_
        refine Seq.append (hsl := sl.sl_uint8) (he := el.uint8) (hH := At.z) (hsrc := fun w' hw => Src.str st.string (strOf la) w') (h63 := by omega) (hb := by omega) (k := ?_); intro A56 c56
        rw [hslz, hslb, ← bytesC_append (.slice A56 (front.length + la.length) c56) front la _ rfl, ← List.length_append, ← hll]
        refine Seq.p rfl Ev.assign ?_
        refine Seq.nil ?_
        refine JC.seq ?_
        refine JC.rs ?_
        refine Seq.p rfl Ev.move ?_
        refine Seq.p rfl (Ev.lenSl sl.sl_uint8 (hr := RAt.own (enc := byteEnc) (xs := line))) ?_
        refine Seq.p rfl Ev.gt ?_
        refine Seq.nil ?_
        first | refine JC.c (ht := fun c59 => ?_) (hf := fun c59 => ?_) | refine JC.cb (ht := fun c59 => ?_) (hf := fun c59 => ?_)
        · -- then_t59
          refine JC.rs ?_
          refine Seq.p rfl Ev.assign ?_
          refine Seq.p rfl Ev.assign ?_
          refine Seq.nil ?_
          refine JC.ret ?_
          show retQ _ _ _ _ _ _ _ _
          refine ret2 (H' := [bytesC (.slice none 0 0) []]) (hp := (by repeat (first | exact Part.nil _ | refine Part.at (by repeat (first | exact At.z | apply At.s)) ?_))) (hpost := ?_)
          rw [encF_long h1 h2 h3 (by rw [← hline]; omega)] at hef
          cases hef
          exact ⟨none, 0, rfl, rfl⟩
        · -- else_t59
          refine JC.skip ?_
          refine JC.rs ?_
          refine Seq.p rfl Ev.move ?_
          refine Seq.p rfl Ev.assign ?_
          refine Seq.p rfl Ev.assign ?_
          refine Seq.nil ?_
          refine JC.ret ?_
          show retQ _ _ _ _ _ _ _ _
          refine ret2 (H' := [bytesC (.slice A56 line.length c56) line]) (hp := (by repeat (first | exact Part.nil _ | refine Part.at (by repeat (first | exact At.z | apply At.s)) ?_))) (hpost := ?_)
          rw [encF_line h1 h2 h3 (by rw [← hline]; omega), ← hline] at hef
          cases hef
          exact ⟨A56, c56, rfl, rfl⟩
end Go.Rx
/- The document's numerals and fields, as texts. -/
namespace Go.Rx
open Go Go.RowKit Go.Lib Go.Proofs.YthpejgmkiomfhaaGreatDoor
set_option linter.unusedVariables false
set_option linter.unusedSimpArgs false
end Go.Rx
/- The laws bourselaw03.TextBack and TextSpoilt give true: the plain part, and TextBack's walk. -/
namespace Go.Rx
open Go Go.RowKit Go.Lib Go.Proofs.YthpejgmkiomfhaaGreatDoor
set_option linter.unusedVariables false
set_option linter.unusedSimpArgs false
theorem field_bytes (n : Nat) (v : ByteArray) : isBytes (fieldL n v) := fun y hy => by
  unfold fieldL fldL at hy
  rcases List.mem_append.1 hy with hy | hy
  · rcases List.mem_append.1 hy with hy | hy
    · exact decL_bytes _ y hy
    · rcases List.mem_cons.1 hy with rfl | hy
      · decide
      · exact bytesOf_range _ y hy
  · rw [List.mem_singleton.1 hy]; decide
theorem app_bytes {a b : List Int} (ha : isBytes a) (hb : isBytes b) : isBytes (a ++ b) := fun x hx => by
  rcases List.mem_append.1 hx with h | h
  · exact ha x h
  · exact hb x h
theorem line_bytes (kind : ByteArray) (xs : List Tg) : isBytes (lineL kind xs) := by
  have hbb : isBytes beginL := by
    intro x hx
    simp only [beginL, List.mem_cons, List.not_mem_nil, or_false] at hx
    omega
  have h1 : isBytes [1] := by
    intro x hx
    rw [List.mem_singleton.1 hx]; decide
  have hbo : isBytes (bodyL kind xs) := by
    refine app_bytes (field_bytes _ _) fun x hx => ?_
    obtain ⟨t, _, ht⟩ := List.mem_flatMap.1 hx
    exact field_bytes _ _ x ht
  exact app_bytes (app_bytes (app_bytes (app_bytes hbb (decL_bytes _)) h1) hbo) (isBytes_last _)
theorem encF_len (kind : ByteArray) (xs : List Tg) : (encF kind xs).2.length ≤ 2048 := by
  unfold encF
  split
  · exact Nat.zero_le _
  · split
    · exact Nat.zero_le _
    · split
      · exact Nat.zero_le _
      · split
        · exact Nat.zero_le _
        · show (lineL kind xs).length ≤ 2048
          omega
end Go.Rx
/- The document's Encode is the plain function. -/
namespace Go.Rx
open Go Go.RowKit Go.Lib Go.Proofs.YthpejgmkiomfhaaGreatDoor
set_option linter.unusedVariables false
set_option linter.unusedSimpArgs false
abbrev brsS : ByteArray := ⟨#[66, 82, 83, 46, 49]⟩
end Go.Rx
/- Fields as a line has them; the program's Line. -/
namespace Go.Rx
open Go Go.RowKit Go.Lib Go.Proofs.YthpejgmkiomfhaaGreatDoor
set_option linter.unusedVariables false
set_option linter.unusedSimpArgs false
def tgOf (f : Fld) : Tg := ⟨f.tag, decS f.num.toNat⟩
def Fld.fine (f : Fld) : Prop := 0 ≤ f.num ∧ f.num ≤ 18446744073709551615
set_option maxHeartbeats 2000000 in
set_option maxRecDepth 100000 in
theorem msgTagged {w : World} {v : Value} {fs : List Fld} (hs : RSl Fld.enc 3 w [] v fs) (hf : ∀ f ∈ fs, f.fine) (h8 : fs.length ≤ 64) (hL : LaidT w) :
    Spec Go.Proofs.Tryz.prog 38 #[v] w [] (fun u N => ∃ A c, u = .slice A (fs.map tgOf).length c ∧ N = [tagsC (.slice A (fs.map tgOf).length c) (fs.map tgOf)]) := by
  refine Spec.enter (fn := Go.Proofs.Tryz.f38) (n := 23) [v] Go.Proofs.Tryz.func38 (by kernel_rfl) rfl Go.Proofs.Tryz.ntmps38 Go.Proofs.Tryz.results38 rfl (Own.nil _) ?_
  refine JC.re (fun w h => h.nilOwn 74 2) ?_
  refine JC.rs ?_
  refine Seq.p rfl Ev.assign ?_
  refine Seq.nil ?_
  refine JC.rs ?_
  refine Seq.p rfl Ev.assign ?_
  refine Seq.nil ?_
  refine JC.seq ?_
  refine JC.rs ?_
  refine Seq.p rfl Ev.move ?_
  refine Seq.p rfl (Ev.lenSl sl.sl_message_field (hr := hs.r)) ?_
  refine Seq.p rfl Ev.move ?_
  refine Seq.nil ?_
  refine JC.blk ?_
  refine JC.loop (α := Nat) (I := fun i e1 H1 => ∃ A c xs, Has [3, 5, 8, 9, 10, 11, 12, 13, 14, 15, 16, 17, 18, 19, 20, 21] [(3, .slice A xs.length c), (8, .int .i64 (i : Int))] _ e1 ∧ H1 = [tagsC (.slice A xs.length c) xs] ∧ i ≤ fs.length ∧ xs = (fs.take i).map tgOf) (μ := fun i => fs.length - i) 0 ⟨none, 0, [], Has.mk Off.refl (allLook_cons (by repeat (first | exact Look.here | apply Look.there (hne := rfl) | exact Look.const | apply Look.mix rfl | exact Look.arg0 | apply Look.args | exact Look.func)) (allLook_cons (by repeat (first | exact Look.here | apply Look.there (hne := rfl) | exact Look.const | apply Look.mix rfl | exact Look.arg0 | apply Look.args | exact Look.func)) allLook_nil)), rfl, by omega, rfl⟩ ?_
  rintro i _ _ ⟨A, c, xs, ⟨u, rfl⟩, rfl, hi, hx⟩; dsimp only [setL]
  refine JC.rs ?_
  refine Seq.p rfl Ev.lt ?_
  refine Seq.nil ?_
  refine JC.seq ?_
  first | refine JC.c (ht := fun c9 => ?_) (hf := fun c9 => ?_) | refine JC.cb (ht := fun c9 => ?_) (hf := fun c9 => ?_)
  · -- then_t9
    have hi2 : i < fs.length := by omega
    have hfi := hf _ (get_memS hi2)
    unfold Fld.fine at hfi
    have hxl : xs.length = i := by rw [hx, List.length_map, List.length_take]; omega
    have hxs : xs ++ [tgOf fs[i]!] = (fs.take (i + 1)).map tgOf := by rw [hx, List.take_succ_eq_append_getElem hi2, List.map_append, getElem!_pos fs i hi2]; rfl
    have hdec : ∀ {w' : World} {H : List Chunk}, Upd w w' [] H → Spec Go.Proofs.Tryz.prog 41 #[.int .u64 (fs[i]!).num] w' [] (fun u _ => u = .string (decS (fs[i]!).num.toNat)) := fun hw => by
      have h := textDecimal (u := (fs[i]!).num.toNat) (by omega) (hL.upd hw)
      rw [show (((fs[i]!).num.toNat : Nat) : Int) = (fs[i]!).num by omega] at h
      exact h
    refine JC.skip ?_
    refine JC.seq ?_
    refine JC.blk ?_
    refine JC.rs ?_
    refine Seq.p rfl (Ev.iaN sl.sl_message_field (hr := hs.r)) ?_
    refine Seq.p rfl (Ev.ldEA ag.message_field (hr := hs.r)) ?_
    refine Seq.alloc (cs := [_, _, _]) (hz := z.message_field) (k := ?_); intro b5
    refine Seq.storeN [_, _, _] sz.message_field (k := ?_)
    refine Seq.nil ?_
    refine JC.anyE 1 mixed ?_
    refine Any.p 0 rfl (by kernel_rfl) (by kernel_rfl) (by kernel_rfl) rfl Ev.move ?_
    refine Any.p 1 rfl (by kernel_rfl) (by kernel_rfl) (by kernel_rfl) rfl (Ev.faB fd.message_field_0) ?_
    refine Any.p 2 rfl (by kernel_rfl) (by kernel_rfl) (by kernel_rfl) rfl (Ev.ldB sc.int) ?_
    refine Any.p 3 rfl (by kernel_rfl) (by kernel_rfl) (by kernel_rfl) rfl (Ev.faB fd.message_field_1) ?_
    refine Any.p 4 rfl (by kernel_rfl) (by kernel_rfl) (by kernel_rfl) rfl (Ev.ldB sc.uint64) ?_
    refine Any.call 5 rfl (by kernel_rfl) (by kernel_rfl) (by kernel_rfl) rfl (fun w hw => hdec hw) ?_
    refine Any.p 6 rfl (by kernel_rfl) (by kernel_rfl) (by kernel_rfl) rfl (Ev.buildN [_, _] pl.api_Tag z.api_Tag) ?_
    refine Any.one 7 rfl (by kernel_rfl) ?_
    refine Seq.buildSlN [_, _] (hsl := sl.sl_api_Tag) (hz := z.api_Tag) (k := ?_); intro b19
    refine Seq.nil ⟨(by repeat (first | exact Part.refl _ | exact Part.nil _ | apply Part.here | apply Part.skip)), ?_⟩
    refine Any.one 8 rfl (by kernel_rfl) ?_
    refine Seq.append (hsl := sl.sl_api_Tag) (he := el.api_Tag) (hsrc := (fun w' hw => Src.box (hl := by rfl) (hc := fun q u hu => hu) sl.sl_api_Tag At.z hw)) (k := ?_); intro A20 c20
    refine Seq.nil ⟨(by repeat (first | exact Part.refl _ | exact Part.nil _ | apply Part.here | apply Part.skip)), ?_⟩
    refine Any.p 9 rfl (by kernel_rfl) (by kernel_rfl) (by kernel_rfl) rfl Ev.assign ?_
    refine Any.done (by kernel_rfl) ?_
    refine JC.reg ?_
    refine Seq.p rfl (by first | exact Ev.inc | exact Ev.add) ?_
    refine Seq.p rfl Ev.move ?_
    refine Seq.nil ?_
    have hst : tagsC (.slice A20 (xs ++ [tgOf fs[i]!]).length c20) (xs ++ [tgOf fs[i]!]) = .own 74 2 (.slice A20 (xs.length + 1) c20) (xs.length + 1) (xs.flatMap Tg.enc ++ [.int .i64 (fs[i]!).tag, .string (decS (fs[i]!).num.toNat)]) := by simp [tagsC, Tg.enc, tgOf, List.flatMap_append]
    refine ⟨i + 1, [_], Part.skip (Part.skip (Part.refl _)), ⟨A20, c20, xs ++ [tgOf fs[i]!], Has.mk (by repeat (first | refine Off.upd ?_ rfl | exact Off.mix | refine Off.mix2 ?_ rfl | exact Off.refl)) (allLook_cons (by rw [List.length_append]; exact (by repeat (first | exact Look.here | apply Look.there (hne := rfl) | exact Look.const | apply Look.mix rfl | exact Look.arg0 | apply Look.args | exact Look.func))) (allLook_cons (by repeat (first | exact Look.here | apply Look.there (hne := rfl) | exact Look.const | apply Look.mix rfl | exact Look.arg0 | apply Look.args | exact Look.func)) allLook_nil)), by rw [hst], by omega, hxs⟩, by omega⟩
  · -- else_t9
    obtain rfl : i = fs.length := by omega
    rw [List.take_length] at hx
    subst hx
    refine JC.exit ?_ -- 0
    refine JC.rs ?_
    refine Seq.p rfl Ev.move ?_
    refine Seq.p rfl Ev.assign ?_
    refine Seq.nil ?_
    refine JC.ret ?_
    show retQ _ _ _ _ _ _ _ _
    refine ret1 (hp := Part.refl _) (hpost := ?_)
    exact ⟨A, c, rfl, rfl⟩
theorem flat_small {α : Type} (f : α → List Int) (k : Nat) : ∀ (xs : List α), (∀ x ∈ xs, (f x).length ≤ k) → (xs.flatMap f).length ≤ k * xs.length
  | [], _ => by simp
  | x :: r, h => by
    have h1 := h x (List.mem_cons_self ..)
    have h2 := flat_small f k r (fun y hy => h y (List.mem_cons_of_mem _ hy))
    rw [List.flatMap_cons, List.length_append, List.length_cons, Nat.mul_add]
    omega
theorem body_short {kind : ByteArray} {xs : List Tg} (hk : kind.size ≤ 2) (hl : xs.length ≤ 64) (hx : ∀ t ∈ xs, t.tag.toNat < 10000 ∧ t.value.size ≤ 20) : (bodyL kind xs).length ≤ 1099511627776 := by
  unfold bodyL
  rw [List.length_append, field_len]
  have h1 := decL_four (n := 35) (by decide)
  have h2 := flat_small (fun t : Tg => fieldL t.tag.toNat t.value) 26 xs (fun t ht => by
    obtain ⟨a, b⟩ := hx t ht
    have := decL_four a
    rw [field_len]
    omega)
  omega
theorem tgOf_fine {f : Fld} (h : f.fine) : (tgOf f).value.size ≤ 20 := by
  unfold Fld.fine at h
  have := decS_facts (n := f.num.toNat) (by omega)
  exact this.2.1
theorem fieldsF_fine {i : Input} (hw : i.Wf) {k : Int} {s : ByteArray} {fs : List Fld} (h : fieldsF i = some (k, s, fs)) : s.size ≤ 2 ∧ ∀ f ∈ fs, f.fine ∧ f.tag.toNat < 10000 := by
  have hup : ∀ t n m : Int, t.toNat < 10000 → (upToF t n m).fine ∧ (upToF t n m).tag.toNat < 10000 := fun t n m ht => ⟨⟨by show 0 ≤ n % _; omega, by show n % _ ≤ _; omega⟩, ht⟩
  have hwh : ∀ t n : Int, t.toNat < 10000 → 0 ≤ n ∧ n ≤ 18446744073709551615 → (wholeF t n).fine ∧ (wholeF t n).tag.toNat < 10000 := fun t n ht hn => ⟨hn, ht⟩
  unfold fieldsF at h
  repeat (first | (split at h) | (simp only [Option.some.injEq, Prod.mk.injEq] at h; obtain ⟨_, rfl, rfl⟩ := h; refine ⟨by show _ ≤ 2; decide, fun f hf => ?_⟩; simp only [List.mem_cons, List.not_mem_nil, or_false] at hf; (repeat (first | (rcases hf with rfl | hf; · first | exact hup _ _ _ (by decide) | exact hwh _ _ (by decide) (by have := hw.id; have := hw.target; have := hw.member; have := hw.qty; have := hw.peak; omega)) | (subst hf; first | exact hup _ _ _ (by decide) | exact hwh _ _ (by decide) (by have := hw.id; have := hw.target; have := hw.member; have := hw.qty; have := hw.peak; omega))))) | cases h)
def lineF (i : Input) : Int × List Int :=
  if toldE i = 0 then match fieldsF i with | some (_, s, fs) => encF s (fs.map tgOf) | none => (0, [])
  else (toldE i, [])
end Go.Rx
/- The program's Line. -/
namespace Go.Rx
open Go Go.RowKit Go.Lib Go.Proofs.YthpejgmkiomfhaaGreatDoor
set_option linter.unusedVariables false
set_option linter.unusedSimpArgs false
def LinePost (l : Int × List Int) (u : Value) (H' : List Chunk) : Prop := ∃ A c, u = .tuple #[.slice A l.2.length c, .int .i64 l.1] ∧ H' = [bytesC (.slice A l.2.length c) l.2]
theorem lineF_err {i : Input} (h : ¬ toldE i = 0) : lineF i = (toldE i, []) := if_neg h
theorem lineF_ok {i : Input} {k : Int} {s : ByteArray} {fs : List Fld} (h : toldE i = 0) (hF : fieldsF i = some (k, s, fs)) : lineF i = encF s (fs.map tgOf) := by
  unfold lineF
  rw [if_pos h, hF]
set_option maxHeartbeats 2000000 in
set_option maxRecDepth 100000 in
theorem msgLine0 {w : World} {i : Input} (hE : ¬ toldE i = 0) : Spec Go.Proofs.Tryz.prog 14 #[.agg i.enc.toArray] w [] (LinePost (lineF i)) := by
  refine Spec.enter (fn := Go.Proofs.Tryz.f14) (n := 26) [.agg i.enc.toArray] Go.Proofs.Tryz.func14 (by kernel_rfl) rfl Go.Proofs.Tryz.ntmps14 Go.Proofs.Tryz.results14 rfl (Own.nil _) ?_
  refine JC.re (fun w h => h.nilOwn 5 1) ?_
  refine JC.rs ?_
  refine Seq.box (cs := [_, _, _, _, _, _, _, _, _, _, _]) (k := ?_); intro b1
  refine Seq.p rfl Ev.assign ?_
  refine Seq.p rfl Ev.assign ?_
  refine Seq.nil ?_
  refine JC.rs ?_
  refine Seq.p rfl (Ev.ldBA ag.api_Input) ?_
  refine Seq.call rfl (fun w hw => msgTold) (F := _) (by exact List.Perm.refl _) ?_
  intro u N hN
  rw [ToldPost, if_neg hE] at hN
  subst hN
  refine Seq.re (fun w h => h.part ⟨N, List.perm_append_comm⟩) ?_
  refine Seq.p rfl Ev.move ?_
  refine Seq.p rfl Ev.extract ?_
  refine Seq.p rfl Ev.extract ?_
  refine Seq.p rfl Ev.extract ?_
  refine Seq.p rfl Ev.extract ?_
  refine Seq.p rfl Ev.extract ?_
  refine Seq.p rfl Ev.assign ?_
  refine Seq.p rfl Ev.assign ?_
  refine Seq.p rfl Ev.assign ?_
  refine Seq.p rfl Ev.assign ?_
  refine Seq.p rfl Ev.assign ?_
  refine Seq.nil ?_
  refine JC.seq ?_
  refine JC.rs ?_
  refine Seq.p rfl Ev.move ?_
  refine Seq.p rfl Ev.ne ?_
  refine Seq.nil ?_
  first | refine JC.c (ht := fun c18 => ?_) (hf := fun c18 => ?_) | refine JC.cb (ht := fun c18 => ?_) (hf := fun c18 => ?_)
  · -- then_t18
    refine JC.rs ?_
    refine Seq.p rfl Ev.move ?_
    refine Seq.p rfl Ev.assign ?_
    refine Seq.p rfl Ev.assign ?_
    refine Seq.nil ?_
    refine JC.ret ?_
    show retQ _ _ _ _ _ _ _ _
    refine ret2 (H' := [bytesC (.slice none 0 0) []]) (hp := (by repeat (first | exact Part.nil _ | refine Part.at (by repeat (first | exact At.z | apply At.s)) ?_))) (hpost := ?_)
    rw [lineF_err hE]
    exact ⟨none, 0, rfl, rfl⟩
  · -- else_t18
    exact absurd hE c18
set_option maxHeartbeats 2000000 in
set_option maxRecDepth 100000 in
theorem msgLine1 {w : World} {i : Input} (hw0 : i.Wf) (hE : toldE i = 0) (hL : LaidT w) : Spec Go.Proofs.Tryz.prog 14 #[.agg i.enc.toArray] w [] (LinePost (lineF i)) := by
  refine Spec.enter (fn := Go.Proofs.Tryz.f14) (n := 26) [.agg i.enc.toArray] Go.Proofs.Tryz.func14 (by kernel_rfl) rfl Go.Proofs.Tryz.ntmps14 Go.Proofs.Tryz.results14 rfl (Own.nil _) ?_
  refine JC.rs ?_
  refine Seq.box (cs := [_, _, _, _, _, _, _, _, _, _, _]) (k := ?_); intro b1
  refine Seq.p rfl Ev.assign ?_
  refine Seq.p rfl Ev.assign ?_
  refine Seq.nil ?_
  refine JC.rs ?_
  refine Seq.p rfl (Ev.ldBA ag.api_Input) ?_
  refine Seq.call rfl (fun w hw => msgTold) (F := _) (by exact List.Perm.refl _) ?_
  intro u N hN
  rw [ToldPost, if_pos hE] at hN
  obtain ⟨k, s, fs, b1, b3, hF, rfl, rfl⟩ := hN
  have hfl := lineF_ok hE hF
  obtain ⟨hs2, hfi⟩ := fieldsF_fine hw0 hF
  have h7 := fieldsF_small hF
  obtain ⟨xs, hxs⟩ : ∃ x, x = fs.map tgOf := ⟨_, rfl⟩
  have hxl : xs.length = fs.length := by rw [hxs, List.length_map]
  have hxf : ∀ t ∈ xs, t.tag.toNat < 10000 ∧ t.value.size ≤ 20 := fun t ht => by
    rw [hxs] at ht
    obtain ⟨f, hf, rfl⟩ := List.mem_map.1 ht
    exact ⟨(hfi f hf).2, tgOf_fine (hfi f hf).1⟩
  have hbd := body_short (kind := s) hs2 (by omega) hxf
  rw [← hxs] at hfl
  rw [hfl]
  obtain ⟨ec, hec⟩ : ∃ x, x = encF s xs := ⟨_, rfl⟩
  rw [← hec]
  refine Seq.p rfl Ev.move ?_
  refine Seq.p rfl Ev.extract ?_
  refine Seq.p rfl Ev.extract ?_
  refine Seq.p rfl Ev.extract ?_
  refine Seq.p rfl Ev.extract ?_
  refine Seq.p rfl Ev.extract ?_
  refine Seq.p rfl Ev.assign ?_
  refine Seq.p rfl Ev.assign ?_
  refine Seq.p rfl Ev.assign ?_
  refine Seq.p rfl Ev.assign ?_
  refine Seq.p rfl Ev.assign ?_
  refine Seq.nil ?_
  refine JC.seq ?_
  refine JC.rs ?_
  refine Seq.p rfl Ev.move ?_
  refine Seq.p rfl Ev.ne ?_
  refine Seq.nil ?_
  first | refine JC.c (ht := fun c18 => ?_) (hf := fun c18 => ?_) | refine JC.cb (ht := fun c18 => ?_) (hf := fun c18 => ?_)
  · -- then_t18
    exact absurd rfl c18
  · -- else_t18
    refine JC.skip ?_
    refine JC.rs ?_
    refine Seq.p rfl Ev.move ?_
    refine Seq.p rfl Ev.move ?_
    refine Seq.call rfl (fun w' hw => by have h := msgTagged (w := w') (fs := fs) (RAt.up (RAt.box (enc := Fld.enc) (sz := 3) (hs := by omega)) hw) (fun f hf => (hfi f hf).1) (by omega) (hL.upd hw); rw [← hxs] at h; exact h) (F := _) (by exact List.Perm.refl _) ?_
    rintro _ _ ⟨A22, c22, rfl, rfl⟩
    simp only [List.cons_append, List.nil_append]
    refine Seq.call rfl (fun w' hw => by have h := textEncode (w := w') (kind := s) (xs := xs) (RAt.up (RAt.own (enc := Tg.enc) (xs := xs) (hs := by omega)) hw) (by omega) (fun t ht => by have := (hxf t ht).2; omega) hbd (hL.upd hw); rw [← hec] at h; exact h) (F := _) (by exact List.Perm.refl _) ?_
    rintro _ _ ⟨A23, c23, rfl, rfl⟩
    simp only [List.cons_append, List.nil_append]
    refine Seq.p rfl Ev.extract ?_
    refine Seq.p rfl Ev.extract ?_
    refine Seq.p rfl Ev.assign ?_
    refine Seq.p rfl Ev.assign ?_
    refine Seq.nil ?_
    refine JC.ret ?_
    show retQ _ _ _ _ _ _ _ _
    refine ret2 (H' := [bytesC (.slice A23 ec.2.length c23) ec.2]) (hp := (by repeat (first | exact Part.nil _ | refine Part.at (by repeat (first | exact At.z | apply At.s)) ?_))) (hpost := ?_)
    exact ⟨A23, c23, rfl, rfl⟩
theorem msgLine {w : World} {i : Input} (hw0 : i.Wf) (hL : LaidT w) : Spec Go.Proofs.Tryz.prog 14 #[.agg i.enc.toArray] w [] (LinePost (lineF i)) := by
  by_cases hE : toldE i = 0
  · exact msgLine1 hw0 hE hL
  · exact msgLine0 hE
end Go.Rx
/- The document's Line: plain. -/
namespace Go.Rx
open Go Go.RowKit Go.Lib Go.Proofs.YthpejgmkiomfhaaGreatDoor
set_option linter.unusedVariables false
set_option linter.unusedSimpArgs false
theorem toldE_eq {i : Input} (hw : i.Wf) : toldE i = refE i := by
  have h := congrArg Prod.snd (pack_eq hw)
  unfold packF refPackF at h
  by_cases h1 : toldE i = 0
  · by_cases h2 : refE i = 0
    · rw [h1, h2]
    · rw [if_pos h1, if_neg h2] at h
      exact absurd h.symm h2
  · by_cases h2 : refE i = 0
    · rw [if_neg h1, if_pos h2] at h
      exact absurd h h1
    · rw [if_neg h1, if_neg h2] at h
      exact h
theorem inValF_range {i : Input} (hw : i.Wf) (t : Int) : 0 ≤ (inValF i t).1 ∧ (inValF i t).1 ≤ 18446744073709551615 := by
  unfold inValF
  (repeat' split) <;> first | exact hw.id | exact hw.target | exact hw.qty | exact hw.peak | (dsimp only; omega)
def rfTg (i : Input) (f : RF) : Tg := ⟨f.tag, decS (inValF i f.tag).1.toNat⟩
def letterF (k : Int) : ByteArray := if k = 1 then ⟨#[68]⟩ else if k = 2 then ⟨#[70]⟩ else if k = 3 then ⟨#[71]⟩ else if k = 4 then ⟨#[85, 69]⟩ else ⟨#[]⟩
theorem told_same {i : Input} {k : Int} {s : ByteArray} {fs : List Fld} (hF : fieldsF i = some (k, s, fs)) : s = letterF (nameF i) ∧ fs.map tgOf = (refFieldsF (nameF i)).map (rfTg i) := by
  unfold fieldsF at hF
  split at hF
  · rename_i h
    simp only [Option.some.injEq, Prod.mk.injEq] at hF
    obtain ⟨_, rfl, rfl⟩ := hF
    have hn : nameF i = 4 := if_pos h
    rw [hn]
    exact ⟨rfl, rfl⟩
  · rename_i h
    split at hF
    · cases hF
    · rename_i h1
      have h1 : i.kind = 1 := by omega
      split at hF
      · rename_i h2
        simp only [Option.some.injEq, Prod.mk.injEq] at hF
        obtain ⟨_, rfl, rfl⟩ := hF
        have hn : nameF i = 1 := by unfold nameF; rw [if_neg h, if_pos ⟨h1, by omega, by omega⟩, h2]
        rw [hn]
        exact ⟨rfl, rfl⟩
      · split at hF
        · rename_i h2
          simp only [Option.some.injEq, Prod.mk.injEq] at hF
          obtain ⟨_, rfl, rfl⟩ := hF
          have hn : nameF i = 2 := by unfold nameF; rw [if_neg h, if_pos ⟨h1, by omega, by omega⟩, h2]
          rw [hn]
          exact ⟨rfl, rfl⟩
        · split at hF
          · rename_i h2
            simp only [Option.some.injEq, Prod.mk.injEq] at hF
            obtain ⟨_, rfl, rfl⟩ := hF
            have hn : nameF i = 3 := by unfold nameF; rw [if_neg h, if_pos ⟨h1, by omega, by omega⟩, h2]
            rw [hn]
            exact ⟨rfl, rfl⟩
          · cases hF
theorem toldE_some {i : Input} (h : toldE i = 0) : ∃ k s fs, fieldsF i = some (k, s, fs) := by
  unfold toldE at h
  cases hF : fieldsF i with
  | none => rw [hF] at h; cases h
  | some p => obtain ⟨k, s, fs⟩ := p; exact ⟨k, s, fs, rfl⟩
end Go.Rx
/- The document's Line. -/
namespace Go.Rx
open Go Go.RowKit Go.Lib Go.Proofs.YthpejgmkiomfhaaGreatDoor
set_option linter.unusedVariables false
set_option linter.unusedSimpArgs false
def lettersL : List Value := [.string ⟨#[]⟩, .string ⟨#[68]⟩, .string ⟨#[70]⟩, .string ⟨#[71]⟩, .string ⟨#[85, 69]⟩]
theorem letter_size (k : Int) : (letterF k).size ≤ 2 := by
  unfold letterF
  (repeat' split) <;> decide
end Go.Rx
/- An event's line: plain, and as the document tells it. -/
namespace Go.Rx
open Go Go.RowKit Go.Lib Go.Proofs.YthpejgmkiomfhaaGreatDoor
set_option linter.unusedVariables false
set_option linter.unusedSimpArgs false
def evTg (e : Event) (f : RF) : Tg := ⟨f.tag, decS (eventValueF e f.tag).1.toNat⟩
def kindTg (e : Event) : Tg := ⟨150, decS e.kind.toNat⟩
def evTags (e : Event) : List RF → List Tg
  | [] => []
  | f :: r => evTg e f :: kindTg e :: r.map (evTg e)
def evLineF (e : Event) : Int × List Int := if refEvE e = 0 then encF ⟨#[56]⟩ (evTags e (toldRF e.kind)) else (refEvE e, [])
theorem mod_rng (x : Int) : 0 ≤ x % 18446744073709551616 ∧ x % 18446744073709551616 ≤ 18446744073709551615 := by omega
theorem eventValueF_range {e : Event} (hw : e.Wf) (t : Int) : 0 ≤ (eventValueF e t).1 ∧ (eventValueF e t).1 ≤ 18446744073709551615 := by
  obtain ⟨p, hp⟩ : ∃ p, p = eventValueF e t := ⟨_, rfl⟩
  rw [← hp]
  unfold eventValueF at hp
  by_cases h34 : t = 34
  · rw [if_pos h34] at hp; subst hp; exact hw.seq
  rw [if_neg h34] at hp
  by_cases h11 : t = 11
  · rw [if_pos h11] at hp; subst hp; exact hw.id
  rw [if_neg h11] at hp
  by_cases h41 : t = 41
  · rw [if_pos h41] at hp; subst hp; exact hw.target
  rw [if_neg h41] at hp
  by_cases h37 : t = 37
  · rw [if_pos h37] at hp; subst hp; exact hw.other
  rw [if_neg h37] at hp
  by_cases h1 : t = 1
  · rw [if_pos h1] at hp; subst hp; exact mod_rng _
  rw [if_neg h1] at hp
  by_cases h38 : t = 38
  · rw [if_pos h38] at hp; subst hp; exact hw.qty
  rw [if_neg h38] at hp
  by_cases h210 : t = 210
  · rw [if_pos h210] at hp; subst hp; exact hw.peak
  rw [if_neg h210] at hp
  subst hp
  exact mod_rng _
end Go.Rx
/- spoil: what was told is written over. -/
namespace Go.Rx
open Go Go.RowKit Go.Lib Go.Proofs.YthpejgmkiomfhaaGreatDoor
set_option linter.unusedVariables false
set_option linter.unusedSimpArgs false
end Go.Rx
/- An event's line: the program's tags are the document's. -/
namespace Go.Rx
open Go Go.RowKit Go.Lib Go.Proofs.YthpejgmkiomfhaaGreatDoor
set_option linter.unusedVariables false
set_option linter.unusedSimpArgs false
theorem toldEvE_eq {e : Event} (hw : e.Wf) : toldEvE e = refEvE e := by
  have h := congrArg Prod.snd (packEv_eq hw)
  unfold packEvF refPackEvF at h
  by_cases h1 : toldEvE e = 0
  · by_cases h2 : refEvE e = 0
    · rw [h1, h2]
    · rw [if_pos h1, if_neg h2] at h
      exact absurd h.symm h2
  · by_cases h2 : refEvE e = 0
    · rw [if_neg h1, if_pos h2] at h
      exact absurd h h1
    · rw [if_neg h1, if_neg h2] at h
      exact h
theorem toldEv_same {e : Event} {fs : List Fld} (hF : evFieldsF e = some fs) : fs.map tgOf = (toldRF e.kind).map (evTg e) := by
  unfold evFieldsF at hF
  by_cases h1 : e.kind = 1
  · rw [if_pos h1] at hF
    cases hF
    rw [h1]
    rfl
  rw [if_neg h1] at hF
  by_cases h2 : e.kind = 2
  · rw [if_pos h2] at hF
    cases hF
    rw [h2]
    rfl
  rw [if_neg h2] at hF
  by_cases h3 : e.kind = 3
  · rw [if_pos h3] at hF
    cases hF
    rw [h3]
    rfl
  rw [if_neg h3] at hF
  by_cases h4 : e.kind = 4
  · rw [if_pos h4] at hF
    cases hF
    rw [h4]
    rfl
  rw [if_neg h4] at hF
  by_cases h5 : e.kind = 5
  · rw [if_pos h5] at hF
    cases hF
    rw [h5]
    rfl
  rw [if_neg h5] at hF
  cases hF
theorem evTags_ins (e : Event) {l : List RF} (h : l ≠ []) : evTags e l = (l.map (evTg e)).take 1 ++ kindTg e :: (l.map (evTg e)).drop 1 := by
  cases l with
  | nil => exact absurd rfl h
  | cons x r => simp [evTags]
theorem evLineF_ok {e : Event} {fs : List Fld} (hw : e.Wf) (h : toldEvE e = 0) (hF : evFieldsF e = some fs) : evLineF e = encF ⟨#[56]⟩ ((fs.map tgOf).take 1 ++ kindTg e :: (fs.map tgOf).drop 1) := by
  have h2 : refEvE e = 0 := by rw [← toldEvE_eq hw]; exact h
  have hk := (evFieldsF_small hF).2
  have hne : toldRF e.kind ≠ [] := fun h => by
    have := toldRF_pos hk
    rw [h] at this
    simp at this
  unfold evLineF
  rw [if_pos h2, toldEv_same hF, evTags_ins e hne]
theorem evLineF_err {e : Event} (hw : e.Wf) (h : ¬ toldEvE e = 0) : evLineF e = (toldEvE e, []) := by
  unfold evLineF
  rw [← toldEvE_eq hw, if_neg h]
end Go.Rx
/- slices.Insert at tags: one tag at place 1. -/
namespace Go.Rx
open Go Go.RowKit Go.Lib Go.Proofs.YthpejgmkiomfhaaGreatDoor
set_option linter.unusedVariables false
set_option linter.unusedSimpArgs false
theorem tags_len (xs : List Tg) : (xs.flatMap Tg.enc).length = xs.length * 2 := by
  induction xs with
  | nil => rfl
  | cons x xs ih => rw [List.flatMap_cons, List.length_append, ih, List.length_cons, Nat.add_mul]; show 2 + _ = _; omega
theorem tags_one (xs : List Tg) : ∀ u ∈ xs.flatMap Tg.enc, u.oneCell' = true := by
  intro u hu
  obtain ⟨t, _, ht⟩ := List.mem_flatMap.1 hu
  simp only [Tg.enc, List.mem_cons, List.not_mem_nil, or_false] at ht
  rcases ht with rfl | rfl <;> rfl
theorem ins_grow {a2 R Y zs : List Value} (ha : a2.length = 2) (hY : Y.length = 2) (hz : zs.length = 2 + R.length) :
    let c1 := ((a2 ++ R).take 2 ++ zs).take 2 ++ Y ++ ((a2 ++ R).take 2 ++ zs).drop (2 + Y.length)
    c1.take 4 ++ R ++ c1.drop (4 + R.length) = a2 ++ Y ++ R := by
  intro c1
  have h1 : (a2 ++ R).take 2 = a2 := by rw [← ha]; exact List.take_left
  have hc : c1 = a2 ++ Y ++ zs.drop 2 := by
    show ((a2 ++ R).take 2 ++ zs).take 2 ++ Y ++ ((a2 ++ R).take 2 ++ zs).drop (2 + Y.length) = _
    rw [h1, hY]
    congr 1
    · congr 1
      rw [← ha]; exact List.take_left
    · rw [List.drop_append, List.drop_eq_nil_of_le (by omega), List.nil_append]
      congr 1
      omega
  have h4 : (a2 ++ Y).length = 4 := by rw [List.length_append]; omega
  rw [hc]
  have e1 : (a2 ++ Y ++ zs.drop 2).take 4 = a2 ++ Y := by rw [← h4]; exact List.take_left
  have e2 : (a2 ++ Y ++ zs.drop 2).drop (4 + R.length) = [] := List.drop_eq_nil_of_le (by rw [List.length_append, h4, List.length_drop]; omega)
  rw [e1, e2, List.append_nil]
theorem ins_room {a2 R Y zs : List Value} {k : Nat} (ha : a2.length = 2) (hY : Y.length = 2) (hR : 2 ≤ R.length) (hz : 2 ≤ zs.length) (hk : k = 4 + R.length) :
    let c0 := a2 ++ R ++ zs
    let c1 := c0.take 4 ++ R ++ c0.drop (4 + R.length)
    (c1.take 2 ++ Y ++ c1.drop (2 + Y.length)).take k = a2 ++ Y ++ R := by
  intro c0 c1
  have h4 : (c0.take 4).length = 4 := by rw [List.length_take, List.length_append, List.length_append]; omega
  have h2 : c1.take 2 = a2 := by
    show (c0.take 4 ++ R ++ _).take 2 = a2
    rw [List.append_assoc, List.take_append_of_le_length (by omega), List.take_take]
    show (a2 ++ R ++ zs).take 2 = a2
    rw [List.append_assoc, ← ha]
    exact List.take_left
  have h3 : c1.drop 4 = R ++ c0.drop (4 + R.length) := by
    show (c0.take 4 ++ R ++ _).drop 4 = _
    rw [List.append_assoc]
    exact List.drop_left' h4
  rw [h2, hY, h3, hk]
  have h5 : (a2 ++ Y ++ R).length = 4 + R.length := by simp only [List.length_append]; omega
  rw [← List.append_assoc, ← h5]
  exact List.take_left
set_option maxHeartbeats 2000000 in
set_option maxRecDepth 100000 in
theorem msgInsert {w : World} {A : Option Addr} {c bv : Nat} {y : Tg} {xs : List Tg} (h1 : 1 < xs.length) (h64 : xs.length ≤ 64) (ho : Own w [tagsC (.slice A xs.length c) xs, .box bv 74 y.enc]) :
    Spec Go.Proofs.Tryz.prog 40 #[.slice A xs.length c, .int .i64 1, .slice (some ⟨bv, 0, none⟩) 1 1] w [tagsC (.slice A xs.length c) xs, .box bv 74 y.enc]
      (fun u N => ∃ A' c', u = .slice A' (xs.length + 1) c' ∧ N = [tagsC (.slice A' (xs.length + 1) c') (xs.take 1 ++ y :: xs.drop 1)]) := by
  obtain ⟨x0, r, rfl⟩ : ∃ x0 r, xs = x0 :: r := by cases xs with | nil => simp at h1 | cons x r => exact ⟨x, r, rfl⟩
  have hr1 : 1 ≤ r.length := by simp at h1; omega
  have hr64 : r.length ≤ 63 := by simp at h64; omega
  obtain ⟨n, hn⟩ : ∃ n, n = (x0 :: r).length := ⟨_, rfl⟩
  have hnr : n = r.length + 1 := by rw [hn]; rfl
  have htag : ∀ v l, tagsC v l = .own 74 2 v l.length (l.flatMap Tg.enc) := fun _ _ => rfl
  have hfl : (x0 :: r).flatMap Tg.enc = x0.enc ++ r.flatMap Tg.enc := List.flatMap_cons
  have hlen2 : ((x0 :: r).take 1 ++ y :: (x0 :: r).drop 1).length = n + 1 := by simp; omega
  have hcells : ((x0 :: r).take 1 ++ y :: (x0 :: r).drop 1).flatMap Tg.enc = x0.enc ++ y.enc ++ r.flatMap Tg.enc := by simp
  simp only [htag, hlen2, hcells]
  rw [htag] at ho
  rw [hfl, ← hn] at ho ⊢
  have hRl := tags_len r
  have hRo := tags_one r
  obtain ⟨R, hR⟩ : ∃ R, R = r.flatMap Tg.enc := ⟨_, rfl⟩
  rw [← hR] at ho ⊢ hRl hRo
  have hx0 : x0.enc.length = 2 := rfl
  have hy0 : y.enc.length = 2 := rfl
  obtain ⟨a2, ha2⟩ : ∃ a2, a2 = x0.enc := ⟨_, rfl⟩
  rw [← ha2] at ho ⊢ hx0
  have hy1 : ∀ u ∈ y.enc, u.oneCell' = true := by
    have := tags_one [y]
    simpa using this
  obtain ⟨Y, hYe⟩ : ∃ Y, Y = y.enc := ⟨_, rfl⟩
  rw [← hYe] at ho ⊢ hy0 hy1
  clear hn hfl hcells hlen2 htag h1 h64 ha2 hYe hR
  refine Spec.enter (fn := Go.Proofs.Tryz.f40) (n := 95) [.slice A n c, .int .i64 ((1 : Nat) : Int), .slice (some ⟨bv, 0, none⟩) 1 1] Go.Proofs.Tryz.func40 (by kernel_rfl) rfl Go.Proofs.Tryz.ntmps40 Go.Proofs.Tryz.results40 rfl ho ?_
  refine JC.lens At.z ?_
  intro hnc hcm hxl
  obtain ⟨A', hA'⟩ : ∃ A', A = some A' := by
    cases A with
    | some a => exact ⟨a, rfl⟩
    | none =>
      have := ho.ok _ (List.mem_cons_self ..)
      rcases this.2 with ⟨h0, h1⟩ | ⟨g, off, cap, cur, fr, he, _⟩
      · omega
      · cases he
  subst hA'
  obtain ⟨g, off, sp⟩ := A'
  obtain rfl : sp = none := by
    have := ho.ok _ (List.mem_cons_self ..)
    rcases this.2 with ⟨h0, h1⟩ | ⟨g, off, cap, cur, fr, he, _⟩
    · cases h0
    · cases he; rfl
  have hcm' : c ≤ 9223372036854775807 := by simp only [maxLen] at hcm; omega
  refine JC.rs ?_
  refine Seq.p rfl Ev.assign ?_
  refine Seq.nil ?_
  refine JC.rs ?_
  refine Seq.p rfl Ev.move ?_
  refine Seq.p rfl Ev.move ?_
  refine Seq.p rfl (Ev.cutLo (l := 1) sl.sl_api_Tag) ?_
  refine Seq.nil ?_
  refine JC.rs ?_
  refine Seq.p rfl Ev.move ?_
  refine Seq.p rfl (Ev.lenH sl.sl_api_Tag) ?_
  refine Seq.p rfl Ev.assign ?_
  refine Seq.nil ?_
  refine JC.seq ?_
  refine JC.rs ?_
  refine Seq.p rfl Ev.move ?_
  refine Seq.p rfl Ev.eq ?_
  refine Seq.nil ?_
  first | refine JC.c (ht := fun c16 => ?_) (hf := fun c16 => ?_) | refine JC.cb (ht := fun c16 => ?_) (hf := fun c16 => ?_)
  · -- then_t16
    exact absurd c16 (by decide)
  · -- else_t16
    refine JC.skip ?_
    refine JC.rs ?_
    refine Seq.p rfl Ev.move ?_
    refine Seq.p rfl (Ev.lenH sl.sl_api_Tag) ?_
    refine Seq.p rfl Ev.assign ?_
    refine Seq.nil ?_
    refine JC.seq ?_
    refine JC.rs ?_
    refine Seq.p rfl Ev.move ?_
    refine Seq.p rfl Ev.move ?_
    refine Seq.p rfl Ev.eq ?_
    refine Seq.nil ?_
    first | refine JC.c (ht := fun c22 => ?_) (hf := fun c22 => ?_) | refine JC.cb (ht := fun c22 => ?_) (hf := fun c22 => ?_)
    · -- then_t22
      omega
    · -- else_t22
      refine JC.skip ?_
      refine JC.seq ?_
      refine JC.rs ?_
      refine Seq.p rfl Ev.move ?_
      refine Seq.p rfl Ev.move ?_
      refine Seq.p rfl Ev.addN ?_
      refine Seq.p rfl Ev.move ?_
      refine Seq.p rfl (Ev.capSl sl.sl_api_Tag) ?_
      refine Seq.p rfl Ev.gt ?_
      refine Seq.nil ?_
      first | refine JC.c (ht := fun c31 => ?_) (hf := fun c31 => ?_) | refine JC.cb (ht := fun c31 => ?_) (hf := fun c31 => ?_)
      · -- then_t31
        refine JC.rs ?_
        refine Seq.p rfl Ev.move ?_
        refine Seq.p rfl Ev.move ?_
        refine Seq.p rfl (Ev.cutHi (h := 1) sl.sl_api_Tag) ?_
        refine Seq.p rfl Ev.move ?_
        refine Seq.p rfl Ev.move ?_
        refine Seq.p rfl Ev.addN ?_
        refine Seq.p rfl Ev.move ?_
        refine Seq.p rfl (Ev.as (v' := .int .i64 ((n : Nat) : Int)) (by rw [Nat.add_sub_cancel]) (Ev.subN (a := n + 1) (b := 1))) ?_
        refine Seq.growZeros (q := 1) (m := n) (hsl := sl.sl_api_Tag) (he := el.api_Tag) (hi := it.int) (hH := At.z) (kk := ?_); intro b40 c40 zs hzl
        refine Seq.p rfl Ev.assign ?_
        refine Seq.nil ?_
        refine JC.lens At.z ?_
        intro hnc9 hcm9 hxl9
        refine JC.rs ?_
        refine Seq.p rfl Ev.move ?_
        refine Seq.p rfl Ev.move ?_
        refine Seq.p rfl (Ev.cutLo (l := 1) sl.sl_api_Tag) ?_
        refine Seq.p rfl Ev.move ?_
        refine Seq.copyOwn (off := 0) (o := 1 * 2) (k := 1) (i := 0) (hd := sl.sl_api_Tag) (hH := At.z) (hk := Nat.min_eq_left (by omega)) (hcs := Cells.boxed (off := 0) (At.s (At.s At.z)) (fun j u h => by rw [Nat.zero_add]; exact h)) (hl := hy0) (hpos := by omega) (h1 := hy1) (hfit := by omega) (kk := ?_)
        refine Seq.nil ?_
        refine JC.asE 0 mixed ?_
        refine Any.p 0 rfl (by kernel_rfl) (by kernel_rfl) (by kernel_rfl) rfl Ev.move ?_
        refine Any.p 1 rfl (by kernel_rfl) (by kernel_rfl) (by kernel_rfl) rfl Ev.move ?_
        refine Any.p 2 rfl (by kernel_rfl) (by kernel_rfl) (by kernel_rfl) rfl Ev.move ?_
        refine Any.p 3 rfl (by kernel_rfl) (by kernel_rfl) (by kernel_rfl) rfl Ev.addN ?_
        refine Any.p 4 rfl (by kernel_rfl) (by kernel_rfl) (by kernel_rfl) rfl (Ev.cutLo (l := 1 + 1) sl.sl_api_Tag) ?_
        refine Any.p 5 rfl (by kernel_rfl) (by kernel_rfl) (by kernel_rfl) rfl Ev.move ?_
        refine Any.p 6 rfl (by kernel_rfl) (by kernel_rfl) (by kernel_rfl) rfl Ev.move ?_
        refine Any.p 7 rfl (by kernel_rfl) (by kernel_rfl) (by kernel_rfl) rfl (Ev.cutLo (l := 1) sl.sl_api_Tag) ?_
        refine Any.one 8 rfl (by kernel_rfl) ?_
        refine Seq.copyOwn (off := 0) (o := (1 + 1) * 2) (k := n - 1) (i := 0) (hd := sl.sl_api_Tag) (hH := At.z) (hk := Nat.min_eq_left (by omega)) (hcs := Cells.own (o := 1 * 2) (At.s At.z) (cs := R) (fun j u h => by rw [List.getElem?_append_right (by omega), hx0]; simpa using h)) (hl := by omega) (hpos := by omega) (h1 := hRo) (hfit := by omega) (kk := ?_)
        refine Seq.nil ⟨(by repeat (first | exact Part.refl _ | exact Part.nil _ | apply Part.here | apply Part.skip)), ?_⟩
        refine Any.done (by kernel_rfl) ?_
        refine JC.rs ?_
        refine Seq.p rfl Ev.move ?_
        refine Seq.p rfl Ev.assign ?_
        refine Seq.nil ?_
        refine JC.ret ?_
        show retQ _ _ _ _ _ _ _ _
        refine ret1 (hp := Part.here (Part.nil _)) (hpost := ?_)
        have h := ins_grow (a2 := a2) (R := R) (Y := Y) (zs := zs) hx0 hy0 (by omega)
        rw [Nat.add_comm n 1]
        exact ⟨_, _, rfl, congrArg (fun l => [Chunk.own 74 2 (.slice (some ⟨b40, 0, none⟩) (1 + n) c40) (1 + n) l]) h⟩
      · -- else_t31
        refine JC.full At.z ?_
        intro zs hzl _ _ _
        have hcl : (c - n) * 2 = c * 2 - n * 2 := Nat.sub_mul ..
        refine JC.skip ?_
        refine JC.rs ?_
        refine Seq.p rfl Ev.move ?_
        refine Seq.p rfl Ev.move ?_
        refine Seq.p rfl Ev.move ?_
        refine Seq.p rfl Ev.addN ?_
        refine Seq.p rfl (Ev.cutHi (h := n + 1) sl.sl_api_Tag) ?_
        refine Seq.p rfl Ev.assign ?_
        refine Seq.nil ?_
        refine JC.seq ?_
        refine JC.rs ?_
        refine Seq.p rfl Ev.move ?_
        refine Seq.p rfl Ev.move ?_
        refine Seq.p rfl Ev.move ?_
        refine Seq.p rfl Ev.move ?_
        refine Seq.p rfl Ev.addN ?_
        refine Seq.p rfl (Ev.cutLo (l := 1 + 1) sl.sl_api_Tag) ?_
        refine Seq.p rfl (Ev.notOver (tS := 55) (tR := 4) (i := 1) (j := 0) (off := off) Go.Proofs.Tryz.func62 (by kernel_rfl) (by kernel_rfl) (by kernel_rfl) (by kernel_rfl) (hd := sl.sl_api_Tag) (hA := At.s At.z) (hB := At.z) (hij := by decide) (hxs := by simp only [List.length_append]; omega)) ?_
        refine Seq.p rfl Ev.not ?_
        refine Seq.nil ?_
        first | refine JC.c (ht := fun c68 => ?_) (hf := fun c68 => ?_) | refine JC.cb (ht := fun c68 => ?_) (hf := fun c68 => ?_)
        · -- then_t68
          refine JC.asE 0 mixed ?_
          refine Any.p 0 rfl (by kernel_rfl) (by kernel_rfl) (by kernel_rfl) rfl Ev.move ?_
          refine Any.p 1 rfl (by kernel_rfl) (by kernel_rfl) (by kernel_rfl) rfl Ev.move ?_
          refine Any.p 2 rfl (by kernel_rfl) (by kernel_rfl) (by kernel_rfl) rfl Ev.move ?_
          refine Any.p 3 rfl (by kernel_rfl) (by kernel_rfl) (by kernel_rfl) rfl Ev.addN ?_
          refine Any.p 4 rfl (by kernel_rfl) (by kernel_rfl) (by kernel_rfl) rfl (Ev.cutLo (l := 1 + 1) sl.sl_api_Tag) ?_
          refine Any.p 5 rfl (by kernel_rfl) (by kernel_rfl) (by kernel_rfl) rfl Ev.move ?_
          refine Any.p 6 rfl (by kernel_rfl) (by kernel_rfl) (by kernel_rfl) rfl Ev.move ?_
          refine Any.p 7 rfl (by kernel_rfl) (by kernel_rfl) (by kernel_rfl) rfl (Ev.cutLo (l := 1) sl.sl_api_Tag) ?_
          refine Any.one 8 rfl (by kernel_rfl) ?_
          refine Seq.copyOwn (off := off) (o := (1 + 1) * 2) (k := n - 1) (i := 0) (hd := sl.sl_api_Tag) (hH := At.z) (hk := (Nat.min_eq_right (by omega)).trans (by omega)) (hcs := Cells.own (o := 1 * 2) At.z (cs := R) (fun j u h => by have h9 := (List.getElem?_eq_some_iff.1 h).1; rw [List.append_assoc, List.getElem?_append_right (by omega), List.getElem?_append_left (by omega), hx0]; simpa using h)) (hl := by omega) (hpos := by omega) (h1 := hRo) (hfit := by omega) (kk := ?_)
          refine Seq.nil ⟨(by repeat (first | exact Part.refl _ | exact Part.nil _ | apply Part.here | apply Part.skip)), ?_⟩
          refine Any.done (by kernel_rfl) ?_
          refine JC.rs ?_
          refine Seq.p rfl Ev.move ?_
          refine Seq.p rfl Ev.move ?_
          refine Seq.p rfl (Ev.cutLo (l := 1) sl.sl_api_Tag) ?_
          refine Seq.p rfl Ev.move ?_
          refine Seq.copyOwn (off := off) (o := 1 * 2) (k := 1) (i := 0) (hd := sl.sl_api_Tag) (hH := At.z) (hk := Nat.min_eq_left (by omega)) (hcs := Cells.boxed (off := 0) (At.s At.z) (fun j u h => by rw [Nat.zero_add]; exact h)) (hl := hy0) (hpos := by omega) (h1 := hy1) (hfit := by omega) (kk := ?_)
          refine Seq.nil ?_
          refine JC.rs ?_
          refine Seq.p rfl Ev.move ?_
          refine Seq.p rfl Ev.assign ?_
          refine Seq.nil ?_
          refine JC.re (fun w h => Upd.short (m := n + 1) h At.z (by omega)) ?_
          refine JC.ret ?_
          show retQ _ _ _ _ _ _ _ _
          refine ret1 (hp := Part.here (Part.nil _)) (hpost := ?_)
          have h := ins_room (a2 := a2) (R := R) (Y := Y) (zs := zs) (k := (n + 1) * 2) hx0 hy0 (by omega) (by omega) (by omega)
          exact ⟨_, _, rfl, congrArg (fun l => [Chunk.own 74 2 (.slice (some ⟨g, off, none⟩) (n + 1) c) (n + 1) l]) h⟩
        · -- else_t68
          cases c68
end Go.Rx
/- The program's EventLine. -/
namespace Go.Rx
open Go Go.RowKit Go.Lib Go.Proofs.YthpejgmkiomfhaaGreatDoor
set_option linter.unusedVariables false
set_option linter.unusedSimpArgs false
theorem evFieldsF_fine {e : Event} (hw : e.Wf) {fs : List Fld} (h : evFieldsF e = some fs) : 2 ≤ fs.length ∧ ∀ f ∈ fs, f.fine ∧ f.tag.toNat < 10000 := by
  have hup : ∀ t n m : Int, t.toNat < 10000 → (upToF t n m).fine ∧ (upToF t n m).tag.toNat < 10000 := fun t n m ht => ⟨⟨by show 0 ≤ n % _; omega, by show n % _ ≤ _; omega⟩, ht⟩
  have hwh : ∀ t n : Int, t.toNat < 10000 → 0 ≤ n ∧ n ≤ 18446744073709551615 → (wholeF t n).fine ∧ (wholeF t n).tag.toNat < 10000 := fun t n ht hn => ⟨hn, ht⟩
  have h1 := hw.seq
  have h2 := hw.id
  have h3 := hw.other
  have h4 := hw.target
  have h5 := hw.member
  have h6 := hw.qty
  have h7 := hw.peak
  unfold evFieldsF at h
  repeat (first | (split at h) | (simp only [Option.some.injEq] at h; subst h; refine ⟨Nat.le_of_ble_eq_true rfl, fun f hf => ?_⟩; simp only [evFields1, evFields2, evFields3, evFields4, evFields5, List.mem_cons, List.not_mem_nil, or_false] at hf; (repeat (first | (rcases hf with rfl | hf; · first | exact hup _ _ _ (by decide) | exact hwh _ _ (by decide) (by omega)) | (subst hf; first | exact hup _ _ _ (by decide) | exact hwh _ _ (by decide) (by omega))))) | cases h)
set_option maxHeartbeats 2000000 in
set_option maxRecDepth 100000 in
theorem msgEventLine0 {w : World} {e : Event} (hw0 : e.Wf) (hE : ¬ toldEvE e = 0) : Spec Go.Proofs.Tryz.prog 16 #[.agg e.enc.toArray] w [] (LinePost (evLineF e)) := by
  rw [evLineF_err hw0 hE]
  refine Spec.enter (fn := Go.Proofs.Tryz.f16) (n := 31) [.agg e.enc.toArray] Go.Proofs.Tryz.func16 (by kernel_rfl) rfl Go.Proofs.Tryz.ntmps16 Go.Proofs.Tryz.results16 rfl (Own.nil _) ?_
  refine JC.re (fun w h => h.nilOwn 5 1) ?_
  refine JC.rs ?_
  refine Seq.box (cs := [_, _, _, _, _, _, _, _, _, _, _, _, _]) (k := ?_); intro b1
  refine Seq.p rfl Ev.assign ?_
  refine Seq.p rfl Ev.assign ?_
  refine Seq.nil ?_
  refine JC.rs ?_
  refine Seq.p rfl (Ev.ldBA ag.api_Event) ?_
  refine Seq.call rfl (fun w hw => msgToldEv) (F := _) (by exact List.Perm.refl _) ?_
  intro u N hN
  rw [EvToldPost, if_neg hE] at hN
  subst hN
  refine Seq.re (fun w h => h.part ⟨N, List.perm_append_comm⟩) ?_
  refine Seq.p rfl Ev.move ?_
  refine Seq.p rfl Ev.extract ?_
  refine Seq.p rfl Ev.extract ?_
  refine Seq.p rfl Ev.extract ?_
  refine Seq.p rfl Ev.assign ?_
  refine Seq.p rfl Ev.assign ?_
  refine Seq.p rfl Ev.assign ?_
  refine Seq.nil ?_
  refine JC.seq ?_
  refine JC.rs ?_
  refine Seq.p rfl Ev.move ?_
  refine Seq.p rfl Ev.ne ?_
  refine Seq.nil ?_
  first | refine JC.c (ht := fun c15 => ?_) (hf := fun c15 => ?_) | refine JC.cb (ht := fun c15 => ?_) (hf := fun c15 => ?_)
  · -- then_t15
    refine JC.rs ?_
    refine Seq.p rfl Ev.move ?_
    refine Seq.p rfl Ev.assign ?_
    refine Seq.p rfl Ev.assign ?_
    refine Seq.nil ?_
    refine JC.ret ?_
    show retQ _ _ _ _ _ _ _ _
    refine ret2 (H' := [bytesC (.slice none 0 0) []]) (hp := (by repeat (first | exact Part.nil _ | refine Part.at (by repeat (first | exact At.z | apply At.s)) ?_))) (hpost := ?_)
    exact ⟨none, 0, rfl, rfl⟩
  · -- else_t15
    exact absurd hE c15
set_option maxHeartbeats 2000000 in
set_option maxRecDepth 100000 in
theorem msgEventLine1 {w : World} {e : Event} (hw0 : e.Wf) (hE : toldEvE e = 0) (hL : LaidT w) : Spec Go.Proofs.Tryz.prog 16 #[.agg e.enc.toArray] w [] (LinePost (evLineF e)) := by
  refine Spec.enter (fn := Go.Proofs.Tryz.f16) (n := 31) [.agg e.enc.toArray] Go.Proofs.Tryz.func16 (by kernel_rfl) rfl Go.Proofs.Tryz.ntmps16 Go.Proofs.Tryz.results16 rfl (Own.nil _) ?_
  refine JC.rs ?_
  refine Seq.box (cs := [_, _, _, _, _, _, _, _, _, _, _, _, _]) (k := ?_); intro b1
  refine Seq.p rfl Ev.assign ?_
  refine Seq.p rfl Ev.assign ?_
  refine Seq.nil ?_
  refine JC.rs ?_
  refine Seq.p rfl (Ev.ldBA ag.api_Event) ?_
  refine Seq.call rfl (fun w hw => msgToldEv) (F := _) (by exact List.Perm.refl _) ?_
  intro u N hN
  rw [EvToldPost, if_pos hE] at hN
  obtain ⟨fs, A, cc, b3, hF, rfl, rfl⟩ := hN
  have hll := evLineF_ok hw0 hE hF
  obtain ⟨hf2, hfi⟩ := evFieldsF_fine hw0 hF
  obtain ⟨h8, hk⟩ := evFieldsF_small hF
  obtain ⟨xs, hxs⟩ : ∃ x, x = fs.map tgOf := ⟨_, rfl⟩
  have hxl : xs.length = fs.length := by rw [hxs, List.length_map]
  have hkr : (decS e.kind.toNat).size ≤ 20 := (decS_facts (n := e.kind.toNat) (by omega)).2.1
  have hxf : ∀ t ∈ xs, t.tag.toNat < 10000 ∧ t.value.size ≤ 20 := fun t ht => by
    rw [hxs] at ht
    obtain ⟨f, hf, rfl⟩ := List.mem_map.1 ht
    exact ⟨(hfi f hf).2, tgOf_fine (hfi f hf).1⟩
  rw [← hxs] at hll
  have hyl : (xs.take 1 ++ kindTg e :: xs.drop 1).length = xs.length + 1 := by simp; omega
  have hyf : ∀ t ∈ xs.take 1 ++ kindTg e :: xs.drop 1, t.tag.toNat < 10000 ∧ t.value.size ≤ 20 := fun t ht => by
    rw [List.mem_append, List.mem_cons] at ht
    rcases ht with ht | rfl | ht
    · exact hxf t (List.mem_of_mem_take ht)
    · exact ⟨by show Int.toNat 150 < _; decide, hkr⟩
    · exact hxf t (List.mem_of_mem_drop ht)
  have hbd := body_short (kind := ⟨#[56]⟩) (by decide) (show (xs.take 1 ++ kindTg e :: xs.drop 1).length ≤ 64 by omega) hyf
  obtain ⟨ys, hys⟩ : ∃ ys, ys = xs.take 1 ++ kindTg e :: xs.drop 1 := ⟨_, rfl⟩
  have hins : ∀ {w : World} {A : Option Addr} {c bv : Nat}, Own w [tagsC (.slice A xs.length c) xs, .box bv 74 (kindTg e).enc] → Spec Go.Proofs.Tryz.prog 40 #[.slice A xs.length c, .int .i64 1, .slice (some ⟨bv, 0, none⟩) 1 1] w [tagsC (.slice A xs.length c) xs, .box bv 74 (kindTg e).enc] (fun u N => ∃ A' c', u = .slice A' (xs.length + 1) c' ∧ N = [tagsC (.slice A' (xs.length + 1) c') ys]) := fun ho => hys ▸ msgInsert (by omega) (by omega) ho
  rw [← hys] at hll hyl hyf hbd
  rw [hll]
  obtain ⟨ec, hec⟩ : ∃ x, x = encF ⟨#[56]⟩ ys := ⟨_, rfl⟩
  rw [← hec]
  have hdec : ∀ {w' : World} {H : List Chunk}, Upd w w' [] H → Spec Go.Proofs.Tryz.prog 41 #[.int .u64 e.kind] w' [] (fun u _ => u = .string (decS e.kind.toNat)) := fun hw => by
    have h := textDecimal (u := e.kind.toNat) (by omega) (hL.upd hw)
    rw [show ((e.kind.toNat : Nat) : Int) = e.kind by omega] at h
    exact h
  refine Seq.p rfl Ev.move ?_
  refine Seq.p rfl Ev.extract ?_
  refine Seq.p rfl Ev.extract ?_
  refine Seq.p rfl Ev.extract ?_
  refine Seq.p rfl Ev.assign ?_
  refine Seq.p rfl Ev.assign ?_
  refine Seq.p rfl Ev.assign ?_
  refine Seq.nil ?_
  refine JC.seq ?_
  refine JC.rs ?_
  refine Seq.p rfl Ev.move ?_
  refine Seq.p rfl Ev.ne ?_
  refine Seq.nil ?_
  first | refine JC.c (ht := fun c15 => ?_) (hf := fun c15 => ?_) | refine JC.cb (ht := fun c15 => ?_) (hf := fun c15 => ?_)
  · -- then_t15
    exact absurd rfl c15
  · -- else_t15
    refine JC.skip ?_
    refine JC.rs ?_
    refine Seq.p rfl Ev.move ?_
    refine Seq.call rfl (fun w' hw => by have h := msgTagged (w := w') (fs := fs) (RAt.up (RAt.own (enc := Fld.enc) (sz := 3) (hs := by omega)) hw) (fun f hf => (hfi f hf).1) (by omega) (hL.upd hw); rw [← hxs] at h; exact h) (F := _) (by exact List.Perm.refl _) ?_
    rintro _ _ ⟨A18, c18, rfl, rfl⟩
    simp only [List.cons_append, List.nil_append]
    refine Seq.p rfl Ev.assign ?_
    refine Seq.nil ?_
    refine JC.rs ?_
    refine Seq.p rfl Ev.move ?_
    refine Seq.p rfl (Ev.faB fd.api_Event_1) ?_
    refine Seq.p rfl (Ev.ldB sc.int) ?_
    refine Seq.p rfl (Ev.convU64 it.int it.uint64) ?_
    refine Seq.callP rfl (fun w hw => hdec hw) ?_
    refine Seq.p rfl (Ev.buildN (kindTg e).enc pl.api_Tag z.api_Tag) ?_
    refine Seq.buildSlN (kindTg e).enc (hsl := sl.sl_api_Tag) (hz := z.api_Tag) (k := ?_); intro b25
    refine Seq.call rfl (fun w' hw => hins ((hw.part ⟨_, List.Perm.swap _ _ _⟩).own)) (F := _) (by exact List.Perm.swap _ _ _) ?_
    rintro _ _ ⟨A26, c26, rfl, rfl⟩
    simp only [List.cons_append, List.nil_append]
    rw [← hyl]
    refine Seq.p rfl Ev.assign ?_
    refine Seq.nil ?_
    refine JC.rs ?_
    refine Seq.p rfl Ev.move ?_
    refine Seq.call rfl (fun w' hw => by have h := textEncode (w := w') (kind := ⟨#[56]⟩) (xs := ys) (RAt.up (RAt.own (enc := Tg.enc) (xs := ys) (hs := by omega)) hw) (by decide) (fun t ht => by have := (hyf t ht).2; omega) hbd (hL.upd hw); rw [← hec] at h; exact h) (F := _) (by exact List.Perm.refl _) ?_
    rintro _ _ ⟨A28, c28, rfl, rfl⟩
    simp only [List.cons_append, List.nil_append]
    refine Seq.p rfl Ev.extract ?_
    refine Seq.p rfl Ev.extract ?_
    refine Seq.p rfl Ev.assign ?_
    refine Seq.p rfl Ev.assign ?_
    refine Seq.nil ?_
    refine JC.ret ?_
    show retQ _ _ _ _ _ _ _ _
    refine ret2 (H' := [bytesC (.slice A28 ec.2.length c28) ec.2]) (hp := (by repeat (first | exact Part.nil _ | refine Part.at (by repeat (first | exact At.z | apply At.s)) ?_))) (hpost := ?_)
    exact ⟨A28, c28, rfl, rfl⟩
theorem msgEventLine {w : World} {e : Event} (hw0 : e.Wf) (hL : LaidT w) : Spec Go.Proofs.Tryz.prog 16 #[.agg e.enc.toArray] w [] (LinePost (evLineF e)) := by
  by_cases hE : toldEvE e = 0
  · exact msgEventLine1 hw0 hE hL
  · exact msgEventLine0 hw0 hE
theorem lineF_len (i : Input) : (lineF i).2.length ≤ 2048 := by
  unfold lineF
  split
  · split
    · exact encF_len _ _
    · exact Nat.zero_le _
  · exact Nat.zero_le _
theorem evLineF_len (e : Event) : (evLineF e).2.length ≤ 2048 := by
  unfold evLineF
  split
  · exact encF_len _ _
  · exact Nat.zero_le _
end Go.Rx
/- The document's examples: lives. -/
namespace Go.Rx
open Go Go.RowKit Go.Lib Go.Proofs.YthpejgmkiomfhaaGreatDoor
set_option linter.unusedVariables false
set_option linter.unusedSimpArgs false
def liveI1 : Input := ⟨1, 1, 7, 0, 3, 1, 1, 100, 5, 0, 0⟩
def liveI2 : Input := ⟨3, 0, 0, 0, 0, 0, 0, 0, 0, 0, 0⟩
def liveI3 : Input := ⟨1, 2, 0, 7, 0, 0, 0, 0, 0, 0, 0⟩
theorem live_p1 : packF liveI1 = (⟨1, [7, 0, 1103806595075, 100, 5, 0, 0]⟩, 0) := by decide +kernel
theorem live_p2 : packF liveI2 = (⟨0, [0, 0, 0, 0, 0, 0, 0]⟩, 41) := by decide +kernel
theorem live_wf3 : liveI3.Wf := by
  refine ⟨?_, ?_, ?_, ?_, ?_, ?_, ?_, ?_, ?_, ?_⟩ <;> decide
theorem live_l3 : ∃ l, lineF liveI3 = (0, l) ∧ l.length ≤ 2048 ∧ readF l = ⟨⟨#[70]⟩, [⟨41, ⟨#[55]⟩⟩], (l.length : Int), 0, l.length⟩ ∧ isBytes l := by
  have hF : fieldsF liveI3 = some (2, ⟨#[70]⟩, [wholeF 41 7]) := rfl
  have h0 : toldE liveI3 = 0 := by decide +kernel
  have h1 := lineF_ok h0 hF
  have hd : (decS 7) = ⟨#[55]⟩ := by decide +kernel
  have ht : [wholeF 41 7].map tgOf = [⟨41, ⟨#[55]⟩⟩] := by
    show [(⟨41, decS 7⟩ : Tg)] = _
    rw [hd]
  rw [ht] at h1
  have hk : ¬ kindB ⟨#[70]⟩ = false := by decide +kernel
  have he : ¬ encE [] [⟨41, ⟨#[55]⟩⟩] ≠ 0 := by decide +kernel
  have h3 := line_len ⟨#[70]⟩ [⟨41, ⟨#[55]⟩⟩]
  have h4 : (bodyL ⟨#[70]⟩ [⟨41, ⟨#[55]⟩⟩]).length ≤ 100 := by
    unfold bodyL
    rw [List.length_append, field_len, List.flatMap_cons, List.flatMap_nil, List.append_nil, field_len]
    have := decL_four (n := 35) (by decide)
    have := decL_four (n := 41) (by decide)
    show (decL 35).length + 2 + 1 + ((decL 41).length + 2 + 1) ≤ 100
    omega
  have h5 := decL_four (n := (bodyL ⟨#[70]⟩ [⟨41, ⟨#[55]⟩⟩]).length) (by omega)
  have h6 := encF_line hk (by decide) he (show ¬ 2048 < (lineL ⟨#[70]⟩ [⟨41, ⟨#[55]⟩⟩]).length by omega)
  rw [h6] at h1
  refine ⟨_, h1, by omega, ?_, line_bytes _ _⟩
  have := read_enc h6 []
  rwa [List.append_nil] at this
set_option maxHeartbeats 2000000 in
set_option maxRecDepth 100000 in
theorem lawLives {w : World} (hL : Laid w) : Spec Go.Proofs.Tryz.prog 12 #[] w [] (fun u _ => u = .bool true) := by
  obtain ⟨l, hl, hll, hrd, hB⟩ := live_l3
  refine Spec.enter (fn := Go.Proofs.Tryz.f12) (n := 76) [] Go.Proofs.Tryz.func12 (by kernel_rfl) rfl Go.Proofs.Tryz.ntmps12 Go.Proofs.Tryz.results12 rfl (Own.nil _) ?_
  refine JC.rs ?_
  refine Seq.p rfl Ev.assign ?_
  refine Seq.nil ?_
  refine JC.rs ?_
  refine Seq.p rfl (Ev.buildN [.int .i64 1, .int .u64 7, .int .u64 0, .int .u32 3, .int .i64 1, .int .i64 1, .int .i64 100, .int .u64 5, .int .u64 0] pl.api_Command z.api_Command) ?_
  refine Seq.alloc (cs := [_, _, _, _, _, _, _, _, _]) (hz := z.api_Command) (k := ?_); intro b1
  refine Seq.storeN [_, _, _, _, _, _, _, _, _] sz.api_Command (k := ?_)
  refine Seq.nil ?_
  refine JC.rs ?_
  refine Seq.p rfl (Ev.ldBA ag.api_Command) ?_
  refine Seq.p rfl (Ev.buildN liveI1.enc pl.api_Input z.api_Input) ?_
  refine Seq.callP rfl (v := .tuple #[.agg [.int .u8 1, .int .u64 7, .int .u64 0, .int .u64 1103806595075, .int .u64 100, .int .u64 5, .int .u64 0, .int .u64 0].toArray, .int .i64 0]) (fun w' hw => by have h := msgPack (w := w') (i := liveI1); rw [live_p1] at h; exact h) ?_
  refine Seq.p rfl Ev.move ?_
  refine Seq.p rfl Ev.extract ?_
  refine Seq.p rfl Ev.extract ?_
  refine Seq.alloc (cs := [_, _, _, _, _, _, _, _]) (hz := z.api_Frame) (k := ?_); intro b2
  refine Seq.storeN [_, _, _, _, _, _, _, _] sz.api_Frame (k := ?_)
  refine Seq.p rfl Ev.assign ?_
  refine Seq.nil ?_
  refine JC.rs ?_
  refine Seq.p rfl (Ev.buildN liveI2.enc pl.api_Input z.api_Input) ?_
  refine Seq.callP rfl (v := .tuple #[.agg [.int .u8 0, .int .u64 0, .int .u64 0, .int .u64 0, .int .u64 0, .int .u64 0, .int .u64 0, .int .u64 0].toArray, .int .i64 41]) (fun w' hw => by have h := msgPack (w := w') (i := liveI2); rw [live_p2] at h; exact h) ?_
  refine Seq.p rfl Ev.move ?_
  refine Seq.p rfl Ev.extract ?_
  refine Seq.p rfl Ev.extract ?_
  refine Seq.alloc (cs := [_, _, _, _, _, _, _, _]) (hz := z.api_Frame) (k := ?_); intro b4
  refine Seq.storeN [_, _, _, _, _, _, _, _] sz.api_Frame (k := ?_)
  refine Seq.p rfl Ev.assign ?_
  refine Seq.nil ?_
  refine JC.rs ?_
  refine Seq.p rfl (Ev.buildN [.int .i64 2, .int .u64 0, .int .u64 7, .int .u32 0, .int .i64 0, .int .i64 0, .int .i64 0, .int .u64 0, .int .u64 0] pl.api_Command z.api_Command) ?_
  refine Seq.p rfl (Ev.buildN liveI3.enc pl.api_Input z.api_Input) ?_
  refine Seq.call rfl (fun w' hw => by have h := msgLine (w := w') live_wf3 (hL.t.upd hw); rw [hl] at h; exact h) (F := _) (by exact List.Perm.refl _) ?_
  rintro _ _ ⟨A27, c27, rfl, rfl⟩
  simp only [List.cons_append, List.nil_append]
  refine Seq.p rfl Ev.move ?_
  refine Seq.p rfl Ev.extract ?_
  refine Seq.p rfl Ev.extract ?_
  refine Seq.p rfl Ev.assign ?_
  refine Seq.p rfl Ev.assign ?_
  refine Seq.nil ?_
  refine JC.rs ?_
  refine Seq.p rfl Ev.move ?_
  refine Seq.call rfl (fun w' hw => by have h := textDecode (w := w') (l := l) (RAt.up (RAt.own (enc := byteEnc) (xs := l)) hw) hB (by omega) (hL.upd hw); rw [hrd] at h; exact h) (F := _) (by exact List.Perm.refl _) ?_
  rintro _ _ ⟨A32, c32, rfl, rfl⟩
  simp only [List.cons_append, List.nil_append]
  refine Seq.p rfl Ev.move ?_
  refine Seq.p rfl Ev.extract ?_
  refine Seq.p rfl Ev.extract ?_
  refine Seq.p rfl Ev.extract ?_
  refine Seq.p rfl Ev.extract ?_
  refine Seq.p rfl Ev.assign ?_
  refine Seq.p rfl Ev.assign ?_
  refine Seq.p rfl Ev.assign ?_
  refine Seq.p rfl Ev.assign ?_
  refine Seq.nil ?_
  refine JC.seq ?_
  refine JC.rs ?_
  refine Seq.p rfl Ev.move ?_
  refine Seq.p rfl Ev.ne ?_
  refine Seq.p rfl Ev.move ?_
  refine Seq.orG (D := [39, 40, 41, 42]) (d := 39) (t := 42) (k := 3) (hn := fun h39 => ?_) (hx := ?_)
  · repeat (first | refine Seq.gn rfl rfl rfl rfl ?_ | refine Seq.gu rfl rfl rfl ?_)
    refine Seq.p rfl Ev.pickT ?_
    exact Seq.nil ⟨rfl, (by repeat (first | with_reducible exact Off.refl | refine Off.upd ?_ rfl | exact Off.mix | refine Off.mix2 ?_ rfl)), Look.here⟩
  apply Exists.intro
  refine ⟨fun h39 => ?_, fun u42 => ?_⟩
  · try simp only [decide_eq_true_eq, decide_eq_false_iff_not, Bool.and_eq_true, Bool.or_eq_true, Bool.not_eq_true', Bool.not_eq_false', Bool.or_eq_false_iff, Bool.and_eq_false_imp] at h39
    refine Seq.gy rfl rfl rfl ?_
    refine Seq.p rfl Ev.move ?_
    refine Seq.gy rfl rfl rfl ?_
    refine Seq.p rfl Ev.neStr ?_
    refine Seq.p rfl Ev.pickF ?_
    exact Seq.nil ⟨rfl, (by repeat (first | with_reducible exact Off.refl | refine Off.upd ?_ rfl | exact Off.mix | refine Off.mix2 ?_ rfl)), Look.here⟩
  refine Seq.p rfl Ev.move ?_
  refine Seq.orG (D := [43, 44, 45, 46, 47]) (d := 43) (t := 47) (k := 4) (hn := fun h43 => ?_) (hx := ?_)
  · repeat (first | refine Seq.gn rfl rfl rfl rfl ?_ | refine Seq.gu rfl rfl rfl ?_)
    refine Seq.p rfl Ev.pickT ?_
    exact Seq.nil ⟨rfl, (by repeat (first | with_reducible exact Off.refl | refine Off.upd ?_ rfl | exact Off.mix | refine Off.mix2 ?_ rfl)), Look.here⟩
  apply Exists.intro
  refine ⟨fun h43 => ?_, fun u47 => ?_⟩
  · try simp only [decide_eq_true_eq, decide_eq_false_iff_not, Bool.and_eq_true, Bool.or_eq_true, Bool.not_eq_true', Bool.not_eq_false', Bool.or_eq_false_iff, Bool.and_eq_false_imp] at h43
    refine Seq.gy rfl rfl rfl ?_
    refine Seq.p rfl Ev.move ?_
    refine Seq.gy rfl rfl rfl ?_
    refine Seq.p rfl (Ev.lenSl sl.sl_api_Tag (hr := RAt.own (enc := Tg.enc) (xs := [⟨41, ⟨#[55]⟩⟩]))) ?_
    refine Seq.gy rfl rfl rfl ?_
    refine Seq.p rfl Ev.ne ?_
    refine Seq.p rfl Ev.pickF ?_
    exact Seq.nil ⟨rfl, (by repeat (first | with_reducible exact Off.refl | refine Off.upd ?_ rfl | exact Off.mix | refine Off.mix2 ?_ rfl)), Look.here⟩
  refine Seq.p rfl Ev.move ?_
  refine Seq.orG (D := [48, 49, 50, 51, 52, 53, 54]) (d := 48) (t := 54) (k := 6) (hn := fun h48 => ?_) (hx := ?_)
  · repeat (first | refine Seq.gn rfl rfl rfl rfl ?_ | refine Seq.gu rfl rfl rfl ?_)
    refine Seq.p rfl Ev.pickT ?_
    exact Seq.nil ⟨rfl, (by repeat (first | with_reducible exact Off.refl | refine Off.upd ?_ rfl | exact Off.mix | refine Off.mix2 ?_ rfl)), Look.here⟩
  apply Exists.intro
  refine ⟨fun h48 => ?_, fun u54 => ?_⟩
  · try simp only [decide_eq_true_eq, decide_eq_false_iff_not, Bool.and_eq_true, Bool.or_eq_true, Bool.not_eq_true', Bool.not_eq_false', Bool.or_eq_false_iff, Bool.and_eq_false_imp] at h48
    refine Seq.gy rfl rfl rfl ?_
    refine Seq.p rfl Ev.move ?_
    refine Seq.gy rfl rfl rfl ?_
    refine Seq.p rfl (Ev.iaN sl.sl_api_Tag (i := 0) (hr := RAt.own (enc := Tg.enc) (xs := [⟨41, ⟨#[55]⟩⟩])) (hi := by show 0 < 1; decide)) ?_
    refine Seq.gy rfl rfl rfl ?_
    refine Seq.p rfl (Ev.ldEA ag.api_Tag (i := 0) (hr := RAt.own (enc := Tg.enc) (xs := [⟨41, ⟨#[55]⟩⟩])) (hi := by show 0 < 1; decide)) ?_
    refine Seq.gy rfl rfl rfl ?_
    refine Seq.p rfl (Ev.buildN [_, _] pl.api_Tag z.api_Tag) ?_
    refine Seq.gy rfl rfl rfl ?_
    refine Seq.p rfl (Ev.neAg so.api_Tag ag.api_Tag gd.api_Tag) ?_
    refine Seq.p rfl Ev.pickF ?_
    exact Seq.nil ⟨rfl, (by repeat (first | with_reducible exact Off.refl | refine Off.upd ?_ rfl | exact Off.mix | refine Off.mix2 ?_ rfl)), Look.here⟩
  refine Seq.nil ?_
  first | refine JC.c (ht := fun c54 => ?_) (hf := fun c54 => ?_) | refine JC.cb (ht := fun c54 => ?_) (hf := fun c54 => ?_)
  · -- then_t54
    exfalso
    simp at c54
    simp [Tg.enc, eqL, eqV] at c54
  · -- else_t54
    refine JC.skip ?_
    refine JC.rs ?_
    refine Seq.p rfl Ev.move ?_
    refine Seq.p rfl Ev.eq ?_
    refine Seq.p rfl Ev.move ?_
    refine Seq.andG (D := [57, 58, 59, 60, 61]) (d := 57) (t := 61) (k := 4) (hn := fun h57 => ?_) (hx := ?_)
    · repeat (first | refine Seq.gn rfl rfl rfl rfl ?_ | refine Seq.gu rfl rfl rfl ?_)
      refine Seq.p rfl Ev.pickF ?_
      exact Seq.nil ⟨rfl, (by repeat (first | with_reducible exact Off.refl | refine Off.upd ?_ rfl | exact Off.mix | refine Off.mix2 ?_ rfl)), Look.here⟩
    apply Exists.intro
    refine ⟨fun h57 => ?_, fun u61 => ?_⟩
    · try simp only [decide_eq_true_eq, decide_eq_false_iff_not, Bool.and_eq_true, Bool.or_eq_true, Bool.not_eq_true', Bool.not_eq_false', Bool.or_eq_false_iff, Bool.and_eq_false_imp] at h57
      refine Seq.gy rfl rfl rfl ?_
      refine Seq.p rfl (Ev.faB fd.api_Frame_0) ?_
      refine Seq.gy rfl rfl rfl ?_
      refine Seq.p rfl (Ev.ldB sc.uint8) ?_
      refine Seq.gy rfl rfl rfl ?_
      refine Seq.p rfl Ev.eq ?_
      refine Seq.p rfl Ev.pickT ?_
      exact Seq.nil ⟨rfl, (by repeat (first | with_reducible exact Off.refl | refine Off.upd ?_ rfl | exact Off.mix | refine Off.mix2 ?_ rfl)), Look.here⟩
    refine Seq.p rfl Ev.move ?_
    refine Seq.andG (D := [62, 63, 64, 65, 66, 67]) (d := 62) (t := 67) (k := 5) (hn := fun h62 => ?_) (hx := ?_)
    · repeat (first | refine Seq.gn rfl rfl rfl rfl ?_ | refine Seq.gu rfl rfl rfl ?_)
      refine Seq.p rfl Ev.pickF ?_
      exact Seq.nil ⟨rfl, (by repeat (first | with_reducible exact Off.refl | refine Off.upd ?_ rfl | exact Off.mix | refine Off.mix2 ?_ rfl)), Look.here⟩
    apply Exists.intro
    refine ⟨fun h62 => ?_, fun u67 => ?_⟩
    · try simp only [decide_eq_true_eq, decide_eq_false_iff_not, Bool.and_eq_true, Bool.or_eq_true, Bool.not_eq_true', Bool.not_eq_false', Bool.or_eq_false_iff, Bool.and_eq_false_imp] at h62
      refine Seq.gy rfl rfl rfl ?_
      refine Seq.p rfl (Ev.faB fd.api_Frame_1) ?_
      refine Seq.gy rfl rfl rfl ?_
      refine Seq.p rfl (Ev.ldBPN [_, _, _, _, _, _, _] ag.a7_uint64) ?_
      refine Seq.gy rfl rfl rfl ?_
      refine Seq.p rfl (Ev.buildArrN [_, _, _, _, _, _, _] ar.a7_uint64 z.a7_uint64) ?_
      refine Seq.gy rfl rfl rfl ?_
      refine Seq.p rfl (Ev.eqAg so.a7_uint64 ag.a7_uint64 gd.a7_uint64) ?_
      refine Seq.p rfl Ev.pickT ?_
      exact Seq.nil ⟨rfl, (by repeat (first | with_reducible exact Off.refl | refine Off.upd ?_ rfl | exact Off.mix | refine Off.mix2 ?_ rfl)), Look.here⟩
    refine Seq.p rfl Ev.move ?_
    refine Seq.andG (D := [68, 69, 70, 71]) (d := 68) (t := 71) (k := 3) (hn := fun h68 => ?_) (hx := ?_)
    · repeat (first | refine Seq.gn rfl rfl rfl rfl ?_ | refine Seq.gu rfl rfl rfl ?_)
      refine Seq.p rfl Ev.pickF ?_
      exact Seq.nil ⟨rfl, (by repeat (first | with_reducible exact Off.refl | refine Off.upd ?_ rfl | exact Off.mix | refine Off.mix2 ?_ rfl)), Look.here⟩
    apply Exists.intro
    refine ⟨fun h68 => ?_, fun u71 => ?_⟩
    · try simp only [decide_eq_true_eq, decide_eq_false_iff_not, Bool.and_eq_true, Bool.or_eq_true, Bool.not_eq_true', Bool.not_eq_false', Bool.or_eq_false_iff, Bool.and_eq_false_imp] at h68
      refine Seq.gy rfl rfl rfl ?_
      refine Seq.p rfl Ev.move ?_
      refine Seq.gy rfl rfl rfl ?_
      refine Seq.p rfl Ev.eq ?_
      refine Seq.p rfl Ev.pickT ?_
      exact Seq.nil ⟨rfl, (by repeat (first | with_reducible exact Off.refl | refine Off.upd ?_ rfl | exact Off.mix | refine Off.mix2 ?_ rfl)), Look.here⟩
    refine Seq.p rfl Ev.move ?_
    refine Seq.andG (D := [72, 73, 74, 75]) (d := 72) (t := 75) (k := 3) (hn := fun h72 => ?_) (hx := ?_)
    · repeat (first | refine Seq.gn rfl rfl rfl rfl ?_ | refine Seq.gu rfl rfl rfl ?_)
      refine Seq.p rfl Ev.pickF ?_
      exact Seq.nil ⟨rfl, (by repeat (first | with_reducible exact Off.refl | refine Off.upd ?_ rfl | exact Off.mix | refine Off.mix2 ?_ rfl)), Look.here⟩
    apply Exists.intro
    refine ⟨fun h72 => ?_, fun u75 => ?_⟩
    · try simp only [decide_eq_true_eq, decide_eq_false_iff_not, Bool.and_eq_true, Bool.or_eq_true, Bool.not_eq_true', Bool.not_eq_false', Bool.or_eq_false_iff, Bool.and_eq_false_imp] at h72
      refine Seq.gy rfl rfl rfl ?_
      refine Seq.p rfl Ev.move ?_
      refine Seq.gy rfl rfl rfl ?_
      refine Seq.p rfl Ev.eq ?_
      refine Seq.p rfl Ev.pickT ?_
      exact Seq.nil ⟨rfl, (by repeat (first | with_reducible exact Off.refl | refine Off.upd ?_ rfl | exact Off.mix | refine Off.mix2 ?_ rfl)), Look.here⟩
    refine Seq.p rfl Ev.assign ?_
    refine Seq.nil ?_
    refine JC.ret ?_
    show retQ _ _ _ _ _ _ _ _
    refine ret1 (hp := Part.nil _) (hpost := ?_)
    rfl
end Go.Rx
/- Lines read: the program's valued and ReadLine. -/
namespace Go.Rx
open Go Go.RowKit Go.Lib Go.Proofs.YthpejgmkiomfhaaGreatDoor
set_option linter.unusedVariables false
set_option linter.unusedSimpArgs false
def numT (xs : List Tg) (t : Int) : Option Nat := (valueF xs t).bind numOf
def valStep (xs : List Tg) (m : List (Int × Int)) (t : Tg) : List (Int × Int) := match numT xs t.tag with | some n => iput m t.tag (n : Int) | none => m
def valG (xs ys : List Tg) : List (Int × Int) := ys.foldl (valStep xs) []
def valuedF (xs : List Tg) : List (Int × Int) := valG xs xs
theorem valG_snoc (xs ys : List Tg) (i : Nat) (h : i < ys.length) : valG xs (ys.take (i + 1)) = valStep xs (valG xs (ys.take i)) ys[i]! := by
  unfold valG
  rw [List.take_succ_eq_append_getElem h, List.foldl_append, getElem!_pos ys i h]
  rfl
theorem numV_parts (xs : List Tg) (t : Int) : ∃ q e : Int, numV (valueF xs t) = .tuple #[.int .u64 q, .int .i64 e] ∧ (e = 0 → ∃ n : Nat, numT xs t = some n ∧ q = n ∧ n ≤ 18446744073709551615) ∧ (e ≠ 0 → numT xs t = none) ∧ (q = match numT xs t with | some n => (n : Int) | none => 0) := by
  unfold numT
  cases hv : valueF xs t with
  | none => exact ⟨0, 30, rfl, (fun h => by cases h), fun _ => rfl, rfl⟩
  | some s =>
    cases hn : numOf s with
    | none =>
      refine ⟨0, 31, ?_, (fun h => by cases h), fun _ => hn, ?_⟩
      · simp only [numV, hn]
      · show (0 : Int) = match numOf s with | some n => (n : Int) | none => 0
        rw [hn]
    | some n =>
      refine ⟨n, 0, ?_, fun _ => ⟨n, hn, rfl, (numOf_some hn).2⟩, fun h => absurd rfl h, ?_⟩
      · simp only [numV, hn]
      · show (n : Int) = match numOf s with | some n => (n : Int) | none => 0
        rw [hn]
set_option maxHeartbeats 1000000 in
set_option maxRecDepth 100000 in
theorem msgValued {w : World} {v : Value} {xs : List Tg} (hs : RSl Tg.enc 2 w [] v xs) (hsz : ∀ t ∈ xs, t.value.size ≤ 281474976710656) (hL : Laid w) : Spec Go.Proofs.Tryz.prog 22 #[v] w [] (MapPost (valuedF xs)) := by
  have hsm := hs.small
  refine Spec.enter (fn := Go.Proofs.Tryz.f22) (n := 30) [v] Go.Proofs.Tryz.func22 (by kernel_rfl) rfl Go.Proofs.Tryz.ntmps22 Go.Proofs.Tryz.results22 rfl (Own.nil _) ?_
  refine JC.rs ?_
  refine Seq.p rfl Ev.assign ?_
  refine Seq.nil ?_
  refine JC.rs ?_
  refine Seq.mkMapI .i64 .u64 (k := ?_); intro b8
  refine Seq.p rfl Ev.assign ?_
  refine Seq.nil ?_
  refine JC.seq ?_
  refine JC.rs ?_
  refine Seq.p rfl Ev.move ?_
  refine Seq.p rfl (Ev.lenSl sl.sl_api_Tag (hr := hs.r)) ?_
  refine Seq.p rfl Ev.move ?_
  refine Seq.nil ?_
  refine JC.blk ?_
  refine JC.loop (α := Nat) (I := fun i e1 H1 => Has [5, 6, 7, 11, 12, 13, 14, 15, 16, 17, 18, 19, 20, 21, 22, 23, 24, 25, 26, 27, 28] [(11, .int .i64 (i : Int))] _ e1 ∧ H1 = [.mi b8 .i64 .u64 (valG xs (xs.take i))] ∧ i ≤ xs.length) (μ := fun i => xs.length - i) 0 ⟨Has.mk Off.refl (allLook_cons (by repeat (first | exact Look.here | apply Look.there (hne := rfl) | exact Look.const | apply Look.mix rfl | exact Look.arg0 | apply Look.args | exact Look.func)) allLook_nil), rfl, by omega⟩ ?_
  rintro i _ _ ⟨⟨ui, rfl⟩, rfl, hi⟩; dsimp only [setL]
  refine JC.rs ?_
  refine Seq.p rfl Ev.lt ?_
  refine Seq.nil ?_
  refine JC.seq ?_
  first | refine JC.c (ht := fun c12 => ?_) (hf := fun c12 => ?_) | refine JC.cb (ht := fun c12 => ?_) (hf := fun c12 => ?_)
  · -- then_t12
    have hi2 : i < xs.length := by omega
    obtain ⟨q, e, hq, h0, hn0, _⟩ := numV_parts xs (xs[i]!).tag
    have hnum : ∀ {w' : World} {H : List Chunk}, Upd w w' [] H → Spec Go.Proofs.Tryz.prog 46 #[v, .int .i64 (xs[i]!).tag] w' [] (fun u _ => u = .tuple #[.int .u64 q, .int .i64 e]) := fun hw => by
      have h := textNumber (tag := (xs[i]!).tag) (hs.up hw) hsz (hL.upd hw)
      rw [hq] at h
      exact h
    refine JC.skip ?_
    refine JC.seq ?_
    refine JC.blk ?_
    refine JC.rs ?_
    refine Seq.p rfl (Ev.iaN sl.sl_api_Tag (hr := hs.r)) ?_
    refine Seq.p rfl (Ev.ldEA ag.api_Tag (hr := hs.r)) ?_
    refine Seq.alloc (cs := [_, _]) (hz := z.api_Tag) (k := ?_); intro b5
    refine Seq.storeN [_, _] sz.api_Tag (k := ?_)
    refine Seq.nil ?_
    refine JC.rs ?_
    refine Seq.p rfl Ev.move ?_
    refine Seq.p rfl (Ev.faB fd.api_Tag_0) ?_
    refine Seq.p rfl (Ev.ldB sc.int) ?_
    refine Seq.callP rfl (fun w hw => hnum hw) ?_
    refine Seq.p rfl Ev.move ?_
    refine Seq.p rfl Ev.extract ?_
    refine Seq.p rfl Ev.extract ?_
    refine Seq.p rfl Ev.assign ?_
    refine Seq.p rfl Ev.assign ?_
    refine Seq.nil ?_
    refine JC.rs ?_
    refine Seq.p rfl Ev.move ?_
    refine Seq.p rfl Ev.eq ?_
    refine Seq.nil ?_
    first | refine JC.c (ht := fun c23 => ?_) (hf := fun c23 => ?_) | refine JC.cb (ht := fun c23 => ?_) (hf := fun c23 => ?_)
    · -- then_t23
      obtain ⟨n, hn1, hn2, _⟩ := h0 c23
      refine JC.reg ?_
      refine Seq.p rfl Ev.move ?_
      refine Seq.p rfl (Ev.faB fd.api_Tag_0) ?_
      refine Seq.p rfl (Ev.ldB sc.int) ?_
      refine Seq.p rfl Ev.move ?_
      refine Seq.mapPutI mp.m_int_uint64 (kk' := ?_)
      refine Seq.nil ?_
      refine JC.reg ?_
      refine Seq.p rfl (by first | exact Ev.inc | exact Ev.add) ?_
      refine Seq.p rfl Ev.move ?_
      refine Seq.nil ?_
      refine ⟨i + 1, _, Part.skip (Part.refl _), ⟨Has.mk (by repeat (first | refine Off.upd ?_ rfl | exact Off.mix | refine Off.mix2 ?_ rfl | exact Off.refl)) (allLook_cons (by repeat (first | exact Look.here | apply Look.there (hne := rfl) | exact Look.const | apply Look.mix rfl | exact Look.arg0 | apply Look.args | exact Look.func)) allLook_nil), ?_, by omega⟩, by omega⟩
      rw [valG_snoc xs xs i hi2, valStep, hn1]
      first | done | (rw [hn2]; rfl)
    · -- else_t23
      have hn1 := hn0 c23
      refine JC.skip ?_
      refine JC.reg ?_
      refine Seq.p rfl (by first | exact Ev.inc | exact Ev.add) ?_
      refine Seq.p rfl Ev.move ?_
      refine Seq.nil ?_
      refine ⟨i + 1, _, Part.skip (Part.refl _), ⟨Has.mk (by repeat (first | refine Off.upd ?_ rfl | exact Off.mix | refine Off.mix2 ?_ rfl | exact Off.refl)) (allLook_cons (by repeat (first | exact Look.here | apply Look.there (hne := rfl) | exact Look.const | apply Look.mix rfl | exact Look.arg0 | apply Look.args | exact Look.func)) allLook_nil), ?_, by omega⟩, by omega⟩
      rw [valG_snoc xs xs i hi2, valStep, hn1]
      first | done | (rw [hn2]; rfl)
  · -- else_t12
    obtain rfl : i = xs.length := by omega
    refine JC.exit ?_ -- 0
    refine JC.rs ?_
    refine Seq.p rfl Ev.move ?_
    refine Seq.p rfl Ev.assign ?_
    refine Seq.nil ?_
    refine JC.ret ?_
    show retQ _ _ _ _ _ _ _ _
    refine ret1 (hp := Part.refl _) (hpost := ?_)
    exact ⟨b8, rfl, by rw [List.take_length]; rfl⟩
theorem iget_iput_range {m : List (Int × Int)} {k v : Int} (hm : ∀ p ∈ m, 0 ≤ p.2 ∧ p.2 ≤ 18446744073709551615) (hv : 0 ≤ v ∧ v ≤ 18446744073709551615) : ∀ p ∈ iput m k v, 0 ≤ p.2 ∧ p.2 ≤ 18446744073709551615 := by
  induction m with
  | nil =>
    intro p hp
    simp only [iput, List.mem_cons, List.not_mem_nil, or_false] at hp
    subst hp
    exact hv
  | cons a m ih =>
    obtain ⟨a1, a2⟩ := a
    intro p hp
    unfold iput at hp
    split at hp
    · rcases List.mem_cons.1 hp with rfl | hp
      · exact hv
      · exact hm p (List.mem_cons_of_mem _ hp)
    · rcases List.mem_cons.1 hp with rfl | hp
      · exact hm _ (List.mem_cons_self ..)
      · exact ih (fun q hq => hm q (List.mem_cons_of_mem _ hq)) p hp
theorem iget_range {m : List (Int × Int)} (hm : ∀ p ∈ m, 0 ≤ p.2 ∧ p.2 ≤ 18446744073709551615) (k : Int) : 0 ≤ iget m k ∧ iget m k ≤ 18446744073709551615 := by
  induction m with
  | nil => exact ⟨by show (0 : Int) ≤ 0; decide, by show (0 : Int) ≤ _; decide⟩
  | cons a m ih =>
    obtain ⟨a1, a2⟩ := a
    unfold iget
    split
    · exact hm _ (List.mem_cons_self ..)
    · exact ih (fun q hq => hm q (List.mem_cons_of_mem _ hq))
theorem valG_range (xs : List Tg) : ∀ (ys : List Tg) (m : List (Int × Int)), (∀ p ∈ m, 0 ≤ p.2 ∧ p.2 ≤ 18446744073709551615) → ∀ p ∈ ys.foldl (valStep xs) m, 0 ≤ p.2 ∧ p.2 ≤ 18446744073709551615
  | [], m, hm => hm
  | y :: ys, m, hm => by
    rw [List.foldl_cons]
    refine valG_range xs ys _ ?_
    unfold valStep
    cases hn : numT xs y.tag with
    | none => exact hm
    | some n =>
      refine iget_iput_range hm ?_
      unfold numT at hn
      cases hv : valueF xs y.tag with
      | none => rw [hv] at hn; cases hn
      | some s =>
        rw [hv] at hn
        have := (numOf_some (s := s) hn).2
        omega
theorem valued_range (xs : List Tg) (k : Int) : 0 ≤ iget (valuedF xs) k ∧ iget (valuedF xs) k ≤ 18446744073709551615 :=
  iget_range (valG_range xs xs [] (fun p hp => by cases hp)) k
theorem inputF_wf (k : Int) (xs : List Tg) (hk : 0 ≤ k ∧ k ≤ 255) : (inputF k (valuedF xs)).Wf := by
  unfold inputF
  have z : (0 : Int) ≤ 0 ∧ (0 : Int) ≤ 18446744073709551615 := by decide
  have z4 : (0 : Int) ≤ 0 ∧ (0 : Int) ≤ 4294967295 := by decide
  have zi : -9223372036854775808 ≤ (0 : Int) ∧ (0 : Int) ≤ 9223372036854775807 := by decide
  split
  · exact ⟨zi, z, z, z4, zi, zi, zi, z, z, s64_range _⟩
  · exact ⟨s64_range _, valued_range _ _, valued_range _ _, by show 0 ≤ _ % 4294967296 ∧ _ % 4294967296 ≤ (4294967295 : Int); omega, s64_range _, s64_range _, s64_range _, valued_range _ _, valued_range _ _, zi⟩
def idxF (s : ByteArray) : Int := if s = ⟨#[68]⟩ then 1 else if s = ⟨#[70]⟩ then 2 else if s = ⟨#[71]⟩ then 3 else if s = ⟨#[85, 69]⟩ then 4 else 0
theorem idxF_range (s : ByteArray) : 0 ≤ idxF s ∧ idxF s ≤ 4 := by
  unfold idxF
  (repeat' split) <;> decide
theorem idx_four (s : ByteArray) : idxOfS [⟨#[68]⟩, ⟨#[70]⟩, ⟨#[71]⟩, ⟨#[85, 69]⟩] s = idxF s - 1 := by
  unfold idxF idxOfS
  simp only [idxFromS]
  by_cases h1 : s = ⟨#[68]⟩
  · simp [h1]
  · by_cases h2 : s = ⟨#[70]⟩
    · simp [h2]
    · by_cases h3 : s = ⟨#[71]⟩
      · simp [h3]
      · by_cases h4 : s = ⟨#[85, 69]⟩
        · simp [h4]
        · simp [h1, h2, h3, h4, Ne.symm h1, Ne.symm h2, Ne.symm h3, Ne.symm h4]
theorem spec_same {f : FuncId} {args : Array Value} {w : World} {v : Value} (he : Enters Go.Proofs.Tryz.prog f) (h : Calls Go.Proofs.Tryz.prog f args w fun e w' => e = .returned v ∧ w' = w) : Spec Go.Proofs.Tryz.prog f args w [] (fun u _ => u = v) := by
  refine ⟨he, h.mono ?_⟩
  rintro e w' ⟨rfl, rfl⟩
  exact ⟨_, [], rfl, Upd.refl (Own.nil _), rfl⟩
theorem textIndex4 {w : World} {b : Nat} {s : ByteArray} {w0 : World} {Cs H : List Chunk} {i : Nat} (hH : At H i (.box b 9 [.string ⟨#[68]⟩, .string ⟨#[70]⟩, .string ⟨#[71]⟩, .string ⟨#[85, 69]⟩])) (hw : Upd w0 w Cs H) :
    Spec Go.Proofs.Tryz.prog 20 #[.slice (some ⟨b, 0, none⟩) 4 4, .string s] w [] (fun u _ => u = .int .i64 (idxF s - 1)) := by
  refine spec_same ⟨Go.Proofs.Tryz.f20, Go.Proofs.Tryz.func20, by kernel_rfl, rfl⟩ ?_
  have hc := Go.Proofs.Tryz.slices_Index_string b 0 4 4 [⟨#[68]⟩, ⟨#[70]⟩, ⟨#[71]⟩, ⟨#[85, 69]⟩] s w (by decide) (by decide) (fun j hj => by
    have hj4 : j < 4 := hj
    have h1 : ∀ v, [Value.string ⟨#[68]⟩, .string ⟨#[70]⟩, .string ⟨#[71]⟩, .string ⟨#[85, 69]⟩][j]? = some v → w.cell? ⟨b, 0 + j, none⟩ = some v := fun v hv => (box_cell hw hH (by rw [Nat.zero_add]; exact hv)).1
    have : j = 0 ∨ j = 1 ∨ j = 2 ∨ j = 3 := by omega
    rcases this with rfl | rfl | rfl | rfl <;> exact h1 _ rfl)
  rw [show ([⟨#[68]⟩, ⟨#[70]⟩, ⟨#[71]⟩, ⟨#[85, 69]⟩] : List ByteArray).take 4 = [⟨#[68]⟩, ⟨#[70]⟩, ⟨#[71]⟩, ⟨#[85, 69]⟩] from rfl, idx_four] at hc
  exact hc
theorem lineF_bytes (i : Input) : isBytes (lineF i).2 := by
  have he : ∀ kind xs, isBytes (encF kind xs).2 := fun kind xs => by
    unfold encF
    (repeat' split) <;> first | exact line_bytes _ _ | (intro x hx; cases hx)
  unfold lineF
  split
  · split
    · exact he _ _
    · intro x hx; cases hx
  · intro x hx; cases hx
theorem read_place {l : List Int} (hB : isBytes l) (h : (readF l).why = 0) : (readF l).place = ((readF l).size : Int) ∧ (readF l).size ≤ l.length := by
  obtain ⟨h1, _, h3⟩ := read_inv hB h
  have h4 := read_enc h1 (l.drop (readF l).size)
  rw [List.take_append_drop] at h4
  have h5 := congrArg ReadA.place h4
  simp only [List.length_take] at h5
  refine ⟨?_, h3⟩
  rw [h5]
  congr 1
  omega
def readLineF (l : List Int) : Input × Int × Int :=
  if (readF l).why ≠ 0 then (input0, (readF l).place, (readF l).why)
  else if idxF (readF l).kind = 0 then (input0, 0, 41)
  else if lineF (inputF (idxF (readF l).kind) (valuedF (readF l).tags)) = (0, l.take (readF l).size) then (inputF (idxF (readF l).kind) (valuedF (readF l).tags), ((readF l).size : Int), 0)
  else (input0, 0, 40)
def readLineV (p : Input × Int × Int) : Value := .tuple #[.agg p.1.enc.toArray, .int .i64 p.2.1, .int .i64 p.2.2]
set_option maxHeartbeats 2000000 in
set_option maxRecDepth 100000 in
theorem msgReadLine {w : World} {v : Value} {l : List Int} (hr : RSl byteEnc 1 w [] v l) (hB : isBytes l) (hl : l.length ≤ 140737488355328) (hL : Laid w) :
    Spec Go.Proofs.Tryz.prog 7 #[v] w [] (fun u _ => u = readLineV (readLineF l)) := by
  have hpl := read_place (l := l) hB
  have hts := readF_tags (l := l) (N := 140737488355328) hl
  obtain ⟨R, hR⟩ : ∃ R, R = readF l := ⟨_, rfl⟩
  have hP : readLineF l = if R.why ≠ 0 then (input0, R.place, R.why) else if idxF R.kind = 0 then (input0, 0, 41) else if lineF (inputF (idxF R.kind) (valuedF R.tags)) = (0, l.take R.size) then (inputF (idxF R.kind) (valuedF R.tags), (R.size : Int), 0) else (input0, 0, 40) := by
    rw [hR]
    rfl
  rw [← hR] at hpl hts
  have hix := idxF_range R.kind
  obtain ⟨ix, hix0⟩ : ∃ ix, ix = idxF R.kind := ⟨_, rfl⟩
  rw [← hix0] at hix hP
  have hwf := inputF_wf ix R.tags (by omega)
  obtain ⟨i, hi⟩ : ∃ i, i = inputF ix (valuedF R.tags) := ⟨_, rfl⟩
  rw [← hi] at hP hwf
  have hlb := lineF_bytes i
  have hll := lineF_len i
  obtain ⟨pq, hpl0⟩ : ∃ pq, pq = lineF i := ⟨_, rfl⟩
  rw [← hpl0] at hP hlb hll
  refine Spec.enter (fn := Go.Proofs.Tryz.f7) (n := 56) [v] Go.Proofs.Tryz.func7 (by kernel_rfl) rfl Go.Proofs.Tryz.ntmps7 Go.Proofs.Tryz.results7 rfl (Own.nil _) ?_
  refine JC.rs ?_
  refine Seq.alloc (cs := [_, _, _, _, _, _, _, _, _, _, _]) (hz := z.api_Input) (k := ?_); intro b2
  refine Seq.p rfl Ev.assign ?_
  refine Seq.p rfl Ev.assign ?_
  refine Seq.nil ?_
  refine JC.rs ?_
  refine Seq.p rfl Ev.move ?_
  refine Seq.call rfl (fun w' hw => by have h := textDecode (hr.up hw) hB (by omega) (hL.upd hw); rw [← hR] at h; exact h) (F := _) (by exact List.Perm.refl _) ?_
  rintro _ _ ⟨A15, c15, rfl, rfl⟩
  simp only [List.cons_append, List.nil_append]
  refine Seq.p rfl Ev.move ?_
  refine Seq.p rfl Ev.extract ?_
  refine Seq.p rfl Ev.extract ?_
  refine Seq.p rfl Ev.extract ?_
  refine Seq.p rfl Ev.extract ?_
  refine Seq.p rfl Ev.assign ?_
  refine Seq.p rfl Ev.assign ?_
  refine Seq.p rfl Ev.assign ?_
  refine Seq.p rfl Ev.assign ?_
  refine Seq.nil ?_
  refine JC.seq ?_
  refine JC.rs ?_
  refine Seq.p rfl Ev.move ?_
  refine Seq.p rfl Ev.ne ?_
  refine Seq.nil ?_
  first | refine JC.c (ht := fun c21 => ?_) (hf := fun c21 => ?_) | refine JC.cb (ht := fun c21 => ?_) (hf := fun c21 => ?_)
  · -- then_t21
    refine JC.rs ?_
    refine Seq.p rfl (Ev.buildN [_, _, _, _, _, _, _, _, _, _, _] pl.api_Input z.api_Input) ?_
    refine Seq.p rfl Ev.move ?_
    refine Seq.p rfl Ev.move ?_
    refine Seq.storeN [_, _, _, _, _, _, _, _, _, _, _] sz.api_Input (k := ?_)
    refine Seq.p rfl Ev.assign ?_
    refine Seq.p rfl Ev.assign ?_
    refine Seq.nil ?_
    refine JC.ret ?_
    show retQ _ _ _ _ _ _ _ _
    refine retB3 ag.api_Input (hp := Part.nil _) (hpost := ?_)
    rw [hP, if_pos c21]
    rfl
  · -- else_t21
    obtain ⟨hpz, hsz⟩ := hpl (Classical.not_not.1 c21)
    refine JC.skip ?_
    refine JC.rs ?_
    refine Seq.buildSlN [.string ⟨#[68]⟩, .string ⟨#[70]⟩, .string ⟨#[71]⟩, .string ⟨#[85, 69]⟩] (hsl := sl.sl_string) (hz := z.string) (k := ?_); intro b25
    refine Seq.p rfl Ev.move ?_
    refine Seq.callP rfl (fun w' hw => textIndex4 At.z hw) ?_
    rw [← hix0]
    refine Seq.p rfl (Ev.as (v' := .int .i64 ix) (by congr 1; omega) (Ev.add (a := 1) (b := ix - 1))) ?_
    refine Seq.p rfl (Ev.convU8 it.int it.uint8) ?_
    refine Seq.p rfl Ev.assign ?_
    refine Seq.nil ?_
    refine JC.seq ?_
    refine JC.rs ?_
    refine Seq.p rfl Ev.move ?_
    refine Seq.p rfl Ev.eq ?_
    refine Seq.nil ?_
    first | refine JC.c (ht := fun c31 => ?_) (hf := fun c31 => ?_) | refine JC.cb (ht := fun c31 => ?_) (hf := fun c31 => ?_)
    · -- then_t31
      refine JC.rs ?_
      refine Seq.p rfl (Ev.buildN [_, _, _, _, _, _, _, _, _, _, _] pl.api_Input z.api_Input) ?_
      refine Seq.storeN [_, _, _, _, _, _, _, _, _, _, _] sz.api_Input (k := ?_)
      refine Seq.p rfl Ev.assign ?_
      refine Seq.p rfl Ev.assign ?_
      refine Seq.nil ?_
      refine JC.ret ?_
      show retQ _ _ _ _ _ _ _ _
      refine retB3 ag.api_Input (hp := Part.nil _) (hpost := ?_)
      rw [hP, if_neg c21, if_pos c31]
      rfl
    · -- else_t31
      refine JC.skip ?_
      refine JC.rs ?_
      refine Seq.p rfl Ev.move ?_
      refine Seq.p rfl Ev.move ?_
      refine Seq.call rfl (fun w' hw => msgValued (RAt.up (RAt.own (enc := Tg.enc) (xs := R.tags) (hs := by omega)) hw) (fun t ht => by have := hts.1 t ht; omega) (hL.upd hw)) (F := _) (by exact List.Perm.refl _) ?_
      rintro _ _ ⟨bm, rfl, rfl⟩
      simp only [List.cons_append, List.nil_append]
      refine Seq.callP rfl (v := .agg i.enc.toArray) (fun w' hw => by have h := msgInputOf (k := ix) (RM.up RM.own hw); rw [← hi] at h; exact h) ?_
      refine Seq.alloc (cs := [_, _, _, _, _, _, _, _, _, _, _]) (hz := z.api_Input) (k := ?_); intro b10
      refine Seq.storeTo (cs' := i.enc) sz.api_Input (hH := At.z) (hfit := Nat.le_of_ble_eq_true rfl) (hcs := rfl) (k := ?_)
      refine Seq.nil ?_
      refine JC.seq ?_
      refine JC.rs ?_
      refine Seq.p rfl (Ev.ldBA (cs := i.enc) ag.api_Input) ?_
      refine Seq.call rfl (fun w' hw => by have h := msgLine (w := w') hwf (hL.t.upd hw); rw [← hpl0] at h; exact h) (F := _) (by exact List.Perm.refl _) ?_
      rintro _ _ ⟨A39, c39, rfl, rfl⟩
      simp only [List.cons_append, List.nil_append]
      rw [hpz]
      refine Seq.p rfl Ev.move ?_
      refine Seq.p rfl Ev.extract ?_
      refine Seq.p rfl Ev.extract ?_
      refine Seq.p rfl Ev.assign ?_
      refine Seq.p rfl Ev.assign ?_
      refine Seq.nil ?_
      refine JC.qs mixed (by kernel_rfl) ?_
      refine Qui.p rfl Ev.move ?_
      refine Qui.p rfl Ev.ne ?_
      refine Qui.p rfl Ev.move ?_
      refine Qui.orG (D := [44, 45, 46, 47, 48, 49, 50, 51, 52]) (d := 44) (t := 52) (k := 8) (hn := fun h44 => ?_) (hx := ?_)
      · repeat (first | refine Qui.gn rfl rfl rfl rfl ?_ | refine Qui.gu rfl rfl rfl ?_)
        refine Qui.p rfl Ev.pickT ?_
        exact Qui.nil ⟨(by repeat (first | with_reducible exact Off.refl | refine Off.upd ?_ rfl | exact Off.mix | refine Off.mix2 ?_ rfl)), Look.here⟩
      apply Exists.intro
      refine ⟨fun h44 => ?_, fun u52 => ?_⟩
      · try simp only [decide_eq_true_eq, decide_eq_false_iff_not, Bool.and_eq_true, Bool.or_eq_true, Bool.not_eq_true', Bool.not_eq_false', Bool.or_eq_false_iff, Bool.and_eq_false_imp] at h44
        refine Qui.gy rfl rfl rfl ?_
        refine Qui.p rfl Ev.move ?_
        refine Qui.gy rfl rfl rfl ?_
        refine Qui.p rfl (Ev.strOf (l := pq.2) sl.sl_uint8 it.uint8 st.string (hr := RAt.own (enc := byteEnc) (xs := pq.2))) ?_
        refine Qui.gy rfl rfl rfl ?_
        refine Qui.p rfl Ev.move ?_
        refine Qui.gy rfl rfl rfl ?_
        refine Qui.p rfl Ev.move ?_
        refine Qui.gy rfl rfl rfl ?_
        refine Qui.p rfl (Ev.cut sl.sl_uint8 (hr := hr.r) (l := 0) (h := R.size) (hlo := rfl) (hhi := ⟨_, (by repeat (first | exact Look.here | apply Look.there (hne := rfl) | exact Look.const | apply Look.mix rfl | exact Look.arg0 | apply Look.args | exact Look.func))⟩)) ?_
        refine Qui.gy rfl rfl rfl ?_
        refine Qui.p rfl (Ev.strOf (l := l.take R.size) sl.sl_uint8 it.uint8 st.string (hr := (hr.sub (lo := 0) (hi := R.size) (by omega) hsz).r)) ?_
        refine Qui.gy rfl rfl rfl ?_
        refine Qui.p rfl Ev.neStr ?_
        refine Qui.p rfl Ev.pickF ?_
        exact Qui.nil ⟨(by repeat (first | with_reducible exact Off.refl | refine Off.upd ?_ rfl | exact Off.mix | refine Off.mix2 ?_ rfl)), Look.here⟩
      refine Qui.nil ?_
      first | refine JC.c (ht := fun c52 => ?_) (hf := fun c52 => ?_) | refine JC.cb (ht := fun c52 => ?_) (hf := fun c52 => ?_)
      · -- then_t52
        refine JC.rs ?_
        refine Seq.p rfl (Ev.buildN [_, _, _, _, _, _, _, _, _, _, _] pl.api_Input z.api_Input) ?_
        refine Seq.storeN [_, _, _, _, _, _, _, _, _, _, _] sz.api_Input (k := ?_)
        refine Seq.p rfl Ev.assign ?_
        refine Seq.p rfl Ev.assign ?_
        refine Seq.nil ?_
        refine JC.ret ?_
        show retQ _ _ _ _ _ _ _ _
        refine retB3 ag.api_Input (hp := Part.nil _) (hpost := ?_)
        rw [hP, if_neg c21, if_neg c31, if_neg (fun h => by rw [h] at c52; simp at c52)]
        rfl
      · -- else_t52
        refine JC.skip ?_
        refine JC.rs ?_
        refine Seq.p rfl (Ev.ldBA (cs := i.enc) ag.api_Input) ?_
        refine Seq.p rfl Ev.move ?_
        refine Seq.storeTo (cs' := i.enc) sz.api_Input (hH := by repeat (first | exact At.z | apply At.s)) (hfit := Nat.le_of_ble_eq_true rfl) (hcs := rfl) (k := ?_)
        refine Seq.p rfl Ev.assign ?_
        refine Seq.p rfl Ev.assign ?_
        refine Seq.nil ?_
        refine JC.ret ?_
        show retQ _ _ _ _ _ _ _ _
        refine retB3 ag.api_Input (hp := Part.nil _) (hpost := ?_)
        have hq : pq = (0, l.take R.size) := by
          simp only [Bool.or_eq_false_iff, decide_eq_false_iff_not, Classical.not_not] at c52
          have h2 := (strOf_inj hlb (fun n hn => hB n (List.mem_of_mem_take hn))).1 c52.2
          exact Prod.ext c52.1 h2
        rw [hP, if_neg c21, if_neg c31, if_pos hq]
        rfl
end Go.Rx
/- Lines read: the program's ReadEvent. -/
namespace Go.Rx
open Go Go.RowKit Go.Lib Go.Proofs.YthpejgmkiomfhaaGreatDoor
set_option linter.unusedVariables false
set_option linter.unusedSimpArgs false
def kdF (s : ByteArray) : Int := if s = ⟨#[49]⟩ then 1 else if s = ⟨#[50]⟩ then 2 else if s = ⟨#[51]⟩ then 3 else if s = ⟨#[52]⟩ then 4 else if s = ⟨#[53]⟩ then 5 else 0
theorem kd_parts {s : ByteArray} (h : kdF s ≠ 0) : s.size = 1 ∧ IntKind.u8.wrap (bAt s 0 - 48) = kdF s ∧ 1 ≤ kdF s ∧ kdF s ≤ 5 := by
  by_cases h1 : s = ⟨#[49]⟩
  · subst h1; decide
  by_cases h2 : s = ⟨#[50]⟩
  · subst h2; decide
  by_cases h3 : s = ⟨#[51]⟩
  · subst h3; decide
  by_cases h4 : s = ⟨#[52]⟩
  · subst h4; decide
  by_cases h5 : s = ⟨#[53]⟩
  · subst h5; decide
  exact absurd (by unfold kdF; rw [if_neg h1, if_neg h2, if_neg h3, if_neg h4, if_neg h5]) h
theorem kd_five (s : ByteArray) : containsS [⟨#[49]⟩, ⟨#[50]⟩, ⟨#[51]⟩, ⟨#[52]⟩, ⟨#[53]⟩] s = decide (kdF s ≠ 0) := by
  have h := containsS_iff [⟨#[49]⟩, ⟨#[50]⟩, ⟨#[51]⟩, ⟨#[52]⟩, ⟨#[53]⟩] s
  by_cases hk : kdF s = 0
  · rw [decide_eq_false (by simpa using hk)]
    cases hc : containsS [⟨#[49]⟩, ⟨#[50]⟩, ⟨#[51]⟩, ⟨#[52]⟩, ⟨#[53]⟩] s with
    | false => rfl
    | true =>
      have hm := h.1 hc
      simp only [List.mem_cons, List.not_mem_nil, or_false] at hm
      rcases hm with rfl | rfl | rfl | rfl | rfl <;> exact absurd hk (by decide)
  · rw [decide_eq_true hk]
    refine h.2 ?_
    unfold kdF at hk
    simp only [List.mem_cons, List.not_mem_nil, or_false]
    (repeat' split at hk) <;> simp_all
theorem textContains5 {w : World} {b : Nat} {s : ByteArray} {w0 : World} {Cs H : List Chunk} {i : Nat} (hH : At H i (.box b 9 [.string ⟨#[49]⟩, .string ⟨#[50]⟩, .string ⟨#[51]⟩, .string ⟨#[52]⟩, .string ⟨#[53]⟩])) (hw : Upd w0 w Cs H) :
    Spec Go.Proofs.Tryz.prog 30 #[.slice (some ⟨b, 0, none⟩) 5 5, .string s] w [] (fun u _ => u = .bool (decide (kdF s ≠ 0))) := by
  refine spec_same ⟨Go.Proofs.Tryz.f30, Go.Proofs.Tryz.func30, by kernel_rfl, rfl⟩ ?_
  have hc := Go.Proofs.Tryz.slices_Contains_string b 0 5 5 [⟨#[49]⟩, ⟨#[50]⟩, ⟨#[51]⟩, ⟨#[52]⟩, ⟨#[53]⟩] s w (by decide) (by decide) (fun j hj => by
    have hj4 : j < 5 := hj
    have h1 : ∀ v, [Value.string ⟨#[49]⟩, .string ⟨#[50]⟩, .string ⟨#[51]⟩, .string ⟨#[52]⟩, .string ⟨#[53]⟩][j]? = some v → w.cell? ⟨b, 0 + j, none⟩ = some v := fun v hv => (box_cell hw hH (by rw [Nat.zero_add]; exact hv)).1
    have : j = 0 ∨ j = 1 ∨ j = 2 ∨ j = 3 ∨ j = 4 := by omega
    rcases this with rfl | rfl | rfl | rfl | rfl <;> exact h1 _ rfl)
  rw [show ([⟨#[49]⟩, ⟨#[50]⟩, ⟨#[51]⟩, ⟨#[52]⟩, ⟨#[53]⟩] : List ByteArray).take 5 = [⟨#[49]⟩, ⟨#[50]⟩, ⟨#[51]⟩, ⟨#[52]⟩, ⟨#[53]⟩] from rfl, kd_five] at hc
  exact hc
theorem eventOfF_wf (k : Int) (xs : List Tg) : (eventOfF k (valuedF xs)).Wf :=
  ⟨valued_range _ _, valued_range _ _, valued_range _ _, valued_range _ _, by show 0 ≤ _ % 4294967296 ∧ _ % 4294967296 ≤ (4294967295 : Int); omega, s64_range _, s64_range _, s64_range _, valued_range _ _, valued_range _ _, s64_range _, s64_range _⟩
theorem evLineF_bytes (e : Event) : isBytes (evLineF e).2 := by
  have he : ∀ kind xs, isBytes (encF kind xs).2 := fun kind xs => by
    unfold encF
    (repeat' split) <;> first | exact line_bytes _ _ | (intro x hx; cases hx)
  unfold evLineF
  split
  · exact he _ _
  · intro x hx; cases hx
def notEv (R : ReadA) : Prop := R.kind ≠ ⟨#[56]⟩ ∨ R.tags.length < 2 ∨ R.tags[1]!.tag ≠ 150
instance (R : ReadA) : Decidable (notEv R) := by unfold notEv; infer_instance
def evReadF (l : List Int) : Event × Int × Int :=
  if (readF l).why ≠ 0 then (ev0 0, (readF l).place, (readF l).why)
  else if notEv (readF l) ∨ kdF (readF l).tags[1]!.value = 0 then (ev0 0, 0, 41)
  else if evLineF (eventOfF (kdF (readF l).tags[1]!.value) (valuedF (readF l).tags)) = (0, l.take (readF l).size) then (eventOfF (kdF (readF l).tags[1]!.value) (valuedF (readF l).tags), ((readF l).size : Int), 0)
  else (ev0 0, 0, 40)
def evReadV (p : Event × Int × Int) : Value := .tuple #[.agg p.1.enc.toArray, .int .i64 p.2.1, .int .i64 p.2.2]
set_option maxHeartbeats 4000000 in
set_option maxRecDepth 100000 in
theorem msgReadEvent {w : World} {v : Value} {l : List Int} (hr : RSl byteEnc 1 w [] v l) (hB : isBytes l) (hl : l.length ≤ 140737488355328) (hL : Laid w) :
    Spec Go.Proofs.Tryz.prog 9 #[v] w [] (fun u _ => u = evReadV (evReadF l)) := by
  have hpl := read_place (l := l) hB
  have hts := readF_tags (l := l) (N := 140737488355328) hl
  obtain ⟨R, hR⟩ : ∃ R, R = readF l := ⟨_, rfl⟩
  have hP : evReadF l = if R.why ≠ 0 then (ev0 0, R.place, R.why) else if notEv R ∨ kdF R.tags[1]!.value = 0 then (ev0 0, 0, 41) else if evLineF (eventOfF (kdF R.tags[1]!.value) (valuedF R.tags)) = (0, l.take R.size) then (eventOfF (kdF R.tags[1]!.value) (valuedF R.tags), (R.size : Int), 0) else (ev0 0, 0, 40) := by
    rw [hR]
    rfl
  rw [← hR] at hpl hts
  have hkp := kd_parts (s := R.tags[1]!.value)
  obtain ⟨kd, hkd⟩ : ∃ kd, kd = kdF R.tags[1]!.value := ⟨_, rfl⟩
  have hcon : ∀ {w : World} {b : Nat} {w0 : World} {Cs H : List Chunk} {i : Nat}, At H i (.box b 9 [.string ⟨#[49]⟩, .string ⟨#[50]⟩, .string ⟨#[51]⟩, .string ⟨#[52]⟩, .string ⟨#[53]⟩]) → Upd w0 w Cs H → Spec Go.Proofs.Tryz.prog 30 #[.slice (some ⟨b, 0, none⟩) 5 5, .string R.tags[1]!.value] w [] (fun u _ => u = .bool (decide (kd ≠ 0))) := fun hH hw => hkd ▸ textContains5 hH hw
  rw [← hkd] at hP hkp
  have hwf := eventOfF_wf kd R.tags
  obtain ⟨e, he⟩ : ∃ e, e = eventOfF kd (valuedF R.tags) := ⟨_, rfl⟩
  rw [← he] at hP hwf
  have hlb := evLineF_bytes e
  have hll := evLineF_len e
  obtain ⟨pq, hpl0⟩ : ∃ pq, pq = evLineF e := ⟨_, rfl⟩
  rw [← hpl0] at hP hlb hll
  refine Spec.enter (fn := Go.Proofs.Tryz.f9) (n := 77) [v] Go.Proofs.Tryz.func9 (by kernel_rfl) rfl Go.Proofs.Tryz.ntmps9 Go.Proofs.Tryz.results9 rfl (Own.nil _) ?_
  refine JC.rs ?_
  refine Seq.alloc (cs := [_, _, _, _, _, _, _, _, _, _, _, _, _]) (hz := z.api_Event) (k := ?_); intro b2
  refine Seq.p rfl Ev.assign ?_
  refine Seq.p rfl Ev.assign ?_
  refine Seq.nil ?_
  refine JC.rs ?_
  refine Seq.p rfl Ev.move ?_
  refine Seq.call rfl (fun w' hw => by have h := textDecode (hr.up hw) hB (by omega) (hL.upd hw); rw [← hR] at h; exact h) (F := _) (by exact List.Perm.refl _) ?_
  rintro _ _ ⟨A14, c14, rfl, rfl⟩
  simp only [List.cons_append, List.nil_append]
  refine Seq.p rfl Ev.move ?_
  refine Seq.p rfl Ev.extract ?_
  refine Seq.p rfl Ev.extract ?_
  refine Seq.p rfl Ev.extract ?_
  refine Seq.p rfl Ev.extract ?_
  refine Seq.p rfl Ev.assign ?_
  refine Seq.p rfl Ev.assign ?_
  refine Seq.p rfl Ev.assign ?_
  refine Seq.p rfl Ev.assign ?_
  refine Seq.nil ?_
  refine JC.seq ?_
  refine JC.rs ?_
  refine Seq.p rfl Ev.move ?_
  refine Seq.p rfl Ev.ne ?_
  refine Seq.nil ?_
  first | refine JC.c (ht := fun c20 => ?_) (hf := fun c20 => ?_) | refine JC.cb (ht := fun c20 => ?_) (hf := fun c20 => ?_)
  · -- then_t20
    refine JC.rs ?_
    refine Seq.p rfl (Ev.buildN [_, _, _, _, _, _, _, _, _, _, _, _, _] pl.api_Event z.api_Event) ?_
    refine Seq.p rfl Ev.move ?_
    refine Seq.p rfl Ev.move ?_
    refine Seq.storeN [_, _, _, _, _, _, _, _, _, _, _, _, _] sz.api_Event (k := ?_)
    refine Seq.p rfl Ev.assign ?_
    refine Seq.p rfl Ev.assign ?_
    refine Seq.nil ?_
    refine JC.ret ?_
    show retQ _ _ _ _ _ _ _ _
    refine retB3 ag.api_Event (hp := Part.nil _) (hpost := ?_)
    rw [hP, if_pos c20]
    rfl
  · -- else_t20
    obtain ⟨hpz, hsz⟩ := hpl (Classical.not_not.1 c20)
    refine JC.skip ?_
    refine JC.seq ?_
    refine JC.rs ?_
    refine Seq.p rfl Ev.move ?_
    refine Seq.p rfl Ev.neStr ?_
    refine Seq.p rfl Ev.move ?_
    refine Seq.orG (D := [26, 27, 28, 29, 30]) (d := 26) (t := 30) (k := 4) (hn := fun h26 => ?_) (hx := ?_)
    · repeat (first | refine Seq.gn rfl rfl rfl rfl ?_ | refine Seq.gu rfl rfl rfl ?_)
      refine Seq.p rfl Ev.pickT ?_
      exact Seq.nil ⟨rfl, (by repeat (first | with_reducible exact Off.refl | refine Off.upd ?_ rfl | exact Off.mix | refine Off.mix2 ?_ rfl)), Look.here⟩
    apply Exists.intro
    refine ⟨fun h26 => ?_, fun u30 => ?_⟩
    · try simp only [decide_eq_true_eq, decide_eq_false_iff_not, Bool.and_eq_true, Bool.or_eq_true, Bool.not_eq_true', Bool.not_eq_false', Bool.or_eq_false_iff, Bool.and_eq_false_imp] at h26
      refine Seq.gy rfl rfl rfl ?_
      refine Seq.p rfl Ev.move ?_
      refine Seq.gy rfl rfl rfl ?_
      refine Seq.p rfl (Ev.lenSl sl.sl_api_Tag (hr := RAt.own (enc := Tg.enc) (xs := R.tags) (hs := by omega))) ?_
      refine Seq.gy rfl rfl rfl ?_
      refine Seq.p rfl Ev.lt ?_
      refine Seq.p rfl Ev.pickF ?_
      exact Seq.nil ⟨rfl, (by repeat (first | with_reducible exact Off.refl | refine Off.upd ?_ rfl | exact Off.mix | refine Off.mix2 ?_ rfl)), Look.here⟩
    refine Seq.p rfl Ev.move ?_
    refine Seq.orG (D := [31, 32, 33, 34, 35, 36, 37]) (d := 31) (t := 37) (k := 6) (hn := fun h31 => ?_) (hx := ?_)
    · repeat (first | refine Seq.gn rfl rfl rfl rfl ?_ | refine Seq.gu rfl rfl rfl ?_)
      refine Seq.p rfl Ev.pickT ?_
      exact Seq.nil ⟨rfl, (by repeat (first | with_reducible exact Off.refl | refine Off.upd ?_ rfl | exact Off.mix | refine Off.mix2 ?_ rfl)), Look.here⟩
    apply Exists.intro
    refine ⟨fun h31 => ?_, fun u37 => ?_⟩
    · try simp only [decide_eq_true_eq, decide_eq_false_iff_not, Bool.and_eq_true, Bool.or_eq_true, Bool.not_eq_true', Bool.not_eq_false', Bool.or_eq_false_iff, Bool.and_eq_false_imp] at h31
      have h31b := h31.2
      refine Seq.gy rfl rfl rfl ?_
      refine Seq.p rfl Ev.move ?_
      refine Seq.gy rfl rfl rfl ?_
      refine Seq.p rfl (Ev.iaN sl.sl_api_Tag (i := 1) (hr := RAt.own (enc := Tg.enc) (xs := R.tags) (hs := by omega))) ?_
      refine Seq.gy rfl rfl rfl ?_
      refine Seq.p rfl (Ev.fa fd.api_Tag_0) ?_
      refine Seq.gy rfl rfl rfl ?_
      refine Seq.p rfl (Ev.ldE sc.int (i := 1) (off := 0) (hr := RAt.own (enc := Tg.enc) (xs := R.tags) (hs := by omega))) ?_
      refine Seq.gy rfl rfl rfl ?_
      refine Seq.p rfl Ev.ne ?_
      refine Seq.p rfl Ev.pickF ?_
      exact Seq.nil ⟨rfl, (by repeat (first | with_reducible exact Off.refl | refine Off.upd ?_ rfl | exact Off.mix | refine Off.mix2 ?_ rfl)), Look.here⟩
    refine Seq.p rfl Ev.move ?_
    refine Seq.split (d := 38) (k := ?_)
    rintro (_|_) h38
    · try simp only [decide_eq_true_eq, decide_eq_false_iff_not] at h38
      have hne : ¬ notEv R := by
        unfold notEv
        simp only [Bool.or_eq_false_iff, decide_eq_false_iff_not] at h38
        rintro (h | h | h)
        · exact h38.1.1 h
        · exact h38.1.2 (by omega)
        · exact h38.2 h
      have hlen2 : ¬ R.tags.length < 2 := fun h => hne (.inr (.inl h))
      refine Seq.gy rfl rfl rfl ?_
      refine Seq.buildSlN [.string ⟨#[49]⟩, .string ⟨#[50]⟩, .string ⟨#[51]⟩, .string ⟨#[52]⟩, .string ⟨#[53]⟩] (hsl := sl.sl_string) (hz := z.string) (k := ?_); intro b39
      refine Seq.gy rfl rfl rfl ?_
      refine Seq.p rfl Ev.move ?_
      refine Seq.gy rfl rfl rfl ?_
      refine Seq.p rfl (Ev.iaN sl.sl_api_Tag (i := 1) (hr := RAt.own (enc := Tg.enc) (xs := R.tags) (hs := by omega))) ?_
      refine Seq.gy rfl rfl rfl ?_
      refine Seq.p rfl (Ev.fa fd.api_Tag_1) ?_
      refine Seq.gy rfl rfl rfl ?_
      refine Seq.p rfl (Ev.ldE sc.string (i := 1) (off := 1) (hr := RAt.own (enc := Tg.enc) (xs := R.tags) (hs := by omega))) ?_
      refine Seq.gy rfl rfl rfl ?_
      refine Seq.callP rfl (fun w' hw => hcon At.z hw) ?_
      refine Seq.gy rfl rfl rfl ?_
      refine Seq.p rfl Ev.not ?_
      refine Seq.p rfl Ev.pickF ?_
      refine Seq.nil ?_
      first | refine JC.c (ht := fun c46 => ?_) (hf := fun c46 => ?_) | refine JC.cb (ht := fun c46 => ?_) (hf := fun c46 => ?_)
      · -- then_t46
        have hk0 : kd = 0 := by simpa using c46
        refine JC.rs ?_
        refine Seq.p rfl (Ev.buildN [_, _, _, _, _, _, _, _, _, _, _, _, _] pl.api_Event z.api_Event) ?_
        refine Seq.storeN [_, _, _, _, _, _, _, _, _, _, _, _, _] sz.api_Event (k := ?_)
        refine Seq.p rfl Ev.assign ?_
        refine Seq.p rfl Ev.assign ?_
        refine Seq.nil ?_
        refine JC.ret ?_
        show retQ _ _ _ _ _ _ _ _
        refine retB3 ag.api_Event (hp := Part.nil _) (hpost := ?_)
        rw [hP, if_neg c20, if_pos (.inr hk0)]
        rfl
      · -- else_t46
        have hk0 : kd ≠ 0 := by simpa using c46
        obtain ⟨hv1, hk1, hk2, hk3⟩ := hkp hk0
        have hno : ¬ (notEv R ∨ kd = 0) := fun h => h.elim hne hk0
        refine JC.skip ?_
        refine JC.as mixed ?_
        refine Any.p 0 rfl (by kernel_rfl) (by kernel_rfl) (by kernel_rfl) rfl Ev.move ?_
        refine Any.p 1 rfl (by kernel_rfl) (by kernel_rfl) (by kernel_rfl) rfl (Ev.iaN sl.sl_api_Tag (i := 1) (hr := RAt.own (enc := Tg.enc) (xs := R.tags) (hs := by omega))) ?_
        refine Any.p 2 rfl (by kernel_rfl) (by kernel_rfl) (by kernel_rfl) rfl (Ev.fa fd.api_Tag_1) ?_
        refine Any.p 3 rfl (by kernel_rfl) (by kernel_rfl) (by kernel_rfl) rfl (Ev.ldE sc.string (i := 1) (off := 1) (hr := RAt.own (enc := Tg.enc) (xs := R.tags) (hs := by omega))) ?_
        refine Any.p 4 rfl (by kernel_rfl) (by kernel_rfl) (by kernel_rfl) rfl (Ev.indexStr st.string (i := 0) (hi := by rw [hv1]; decide)) ?_
        refine Any.p 5 rfl (by kernel_rfl) (by kernel_rfl) (by kernel_rfl) rfl (Ev.as (v' := .int .u8 kd) (by rw [← hk1]) (Ev.subW (k := .u8) (a := bAt R.tags[1]!.value 0) (b := 48))) ?_
        refine Any.p 6 rfl (by kernel_rfl) (by kernel_rfl) (by kernel_rfl) rfl (Ev.conv64 it.uint8 it.int) ?_
        refine Any.p 7 rfl (by kernel_rfl) (by kernel_rfl) (by kernel_rfl) rfl Ev.move ?_
        refine Any.two 8 10 rfl rfl (by kernel_rfl) ?_ ?_
        · -- first 8
          refine Seq.call rfl (fun w' hw => msgValued (RAt.up (RAt.own (enc := Tg.enc) (xs := R.tags) (hs := by omega)) hw) (fun t ht => by have := hts.1 t ht; omega) (hL.upd hw)) (F := _) (by exact List.Perm.refl _) ?_
          rintro _ _ ⟨bm, rfl, rfl⟩
          simp only [List.cons_append, List.nil_append]
          refine Seq.nil ⟨(by repeat (first | exact Part.refl _ | exact Part.nil _ | apply Part.here | apply Part.skip)), ?_⟩
          refine Any.two 9 10 rfl rfl (by kernel_rfl) ?_ ?_
          · -- first 9
            refine Seq.callP rfl (v := .agg e.enc.toArray) (fun w' hw => by have h := msgEventOf (k := kd) (RM.up RM.own hw); rw [← he] at h; exact h) ?_
            refine Seq.nil ⟨(by repeat (first | exact Part.refl _ | exact Part.nil _ | apply Part.here | apply Part.skip)), ?_⟩
            refine Any.one 10 rfl (by kernel_rfl) ?_
            refine Seq.alloc (cs := [_, _, _, _, _, _, _, _, _, _, _, _, _]) (hz := z.api_Event) (k := ?_); intro b9
            refine Seq.nil ⟨(by repeat (first | exact Part.refl _ | exact Part.nil _ | apply Part.here | apply Part.skip)), ?_⟩
            refine Any.one 11 rfl (by kernel_rfl) ?_
            refine Seq.storeTo (cs' := e.enc) sz.api_Event (hH := by repeat (first | exact At.z | apply At.s)) (hfit := Nat.le_of_ble_eq_true rfl) (hcs := rfl) (k := ?_)
            refine Seq.nil ⟨(by repeat (first | exact Part.refl _ | exact Part.nil _ | apply Part.here | apply Part.skip)), ?_⟩
            refine Any.done (by kernel_rfl) ?_
            refine JC.seq ?_
            refine JC.rs ?_
            refine Seq.p rfl (Ev.ldBA (cs := e.enc) ag.api_Event) ?_
            refine Seq.call rfl (fun w' hw => by have h := msgEventLine (w := w') hwf (hL.t.upd hw); rw [← hpl0] at h; exact h) (F := _) (by exact List.Perm.refl _) ?_
            rintro _ _ ⟨A60, c60, rfl, rfl⟩
            simp only [List.cons_append, List.nil_append]
            rw [hpz]
            refine Seq.p rfl Ev.move ?_
            refine Seq.p rfl Ev.extract ?_
            refine Seq.p rfl Ev.extract ?_
            refine Seq.p rfl Ev.assign ?_
            refine Seq.p rfl Ev.assign ?_
            refine Seq.nil ?_
            refine JC.qs mixed (by kernel_rfl) ?_
            refine Qui.p rfl Ev.move ?_
            refine Qui.p rfl Ev.ne ?_
            refine Qui.p rfl Ev.move ?_
            refine Qui.orG (D := [65, 66, 67, 68, 69, 70, 71, 72, 73]) (d := 65) (t := 73) (k := 8) (hn := fun h65 => ?_) (hx := ?_)
            · repeat (first | refine Qui.gn rfl rfl rfl rfl ?_ | refine Qui.gu rfl rfl rfl ?_)
              refine Qui.p rfl Ev.pickT ?_
              exact Qui.nil ⟨(by repeat (first | with_reducible exact Off.refl | refine Off.upd ?_ rfl | exact Off.mix | refine Off.mix2 ?_ rfl)), Look.here⟩
            apply Exists.intro
            refine ⟨fun h65 => ?_, fun u73 => ?_⟩
            · try simp only [decide_eq_true_eq, decide_eq_false_iff_not, Bool.and_eq_true, Bool.or_eq_true, Bool.not_eq_true', Bool.not_eq_false', Bool.or_eq_false_iff, Bool.and_eq_false_imp] at h65
              refine Qui.gy rfl rfl rfl ?_
              refine Qui.p rfl Ev.move ?_
              refine Qui.gy rfl rfl rfl ?_
              refine Qui.p rfl (Ev.strOf (l := pq.2) sl.sl_uint8 it.uint8 st.string (hr := RAt.own (enc := byteEnc) (xs := pq.2))) ?_
              refine Qui.gy rfl rfl rfl ?_
              refine Qui.p rfl Ev.move ?_
              refine Qui.gy rfl rfl rfl ?_
              refine Qui.p rfl Ev.move ?_
              refine Qui.gy rfl rfl rfl ?_
              refine Qui.p rfl (Ev.cut sl.sl_uint8 (hr := hr.r) (l := 0) (h := R.size) (hlo := rfl) (hhi := ⟨_, (by repeat (first | exact Look.here | apply Look.there (hne := rfl) | exact Look.const | apply Look.mix rfl | exact Look.arg0 | apply Look.args | exact Look.func))⟩)) ?_
              refine Qui.gy rfl rfl rfl ?_
              refine Qui.p rfl (Ev.strOf (l := l.take R.size) sl.sl_uint8 it.uint8 st.string (hr := (hr.sub (lo := 0) (hi := R.size) (by omega) hsz).r)) ?_
              refine Qui.gy rfl rfl rfl ?_
              refine Qui.p rfl Ev.neStr ?_
              refine Qui.p rfl Ev.pickF ?_
              exact Qui.nil ⟨(by repeat (first | with_reducible exact Off.refl | refine Off.upd ?_ rfl | exact Off.mix | refine Off.mix2 ?_ rfl)), Look.here⟩
            refine Qui.nil ?_
            first | refine JC.c (ht := fun c73 => ?_) (hf := fun c73 => ?_) | refine JC.cb (ht := fun c73 => ?_) (hf := fun c73 => ?_)
            · -- then_t73
              refine JC.rs ?_
              refine Seq.p rfl (Ev.buildN [_, _, _, _, _, _, _, _, _, _, _, _, _] pl.api_Event z.api_Event) ?_
              refine Seq.storeN [_, _, _, _, _, _, _, _, _, _, _, _, _] sz.api_Event (k := ?_)
              refine Seq.p rfl Ev.assign ?_
              refine Seq.p rfl Ev.assign ?_
              refine Seq.nil ?_
              refine JC.ret ?_
              show retQ _ _ _ _ _ _ _ _
              refine retB3 ag.api_Event (hp := Part.nil _) (hpost := ?_)
              first
                | (rw [hP, if_neg c20, if_neg hno, if_neg (fun h => by rw [h] at c73; simp at c73)]; rfl)
                | (have hq : pq = (0, l.take R.size) := by
                     simp only [Bool.or_eq_false_iff, decide_eq_false_iff_not, Classical.not_not] at c73
                     have h2 := (strOf_inj hlb (fun n hn => hB n (List.mem_of_mem_take hn))).1 c73.2
                     exact Prod.ext c73.1 h2
                   rw [hP, if_neg c20, if_neg hno, if_pos hq]
                   rfl)
                | (rw [hP, if_neg c20, if_pos (.inl hne)]; rfl)
            · -- else_t73
              refine JC.skip ?_
              refine JC.rs ?_
              refine Seq.p rfl (Ev.ldBA (cs := e.enc) ag.api_Event) ?_
              refine Seq.p rfl Ev.move ?_
              refine Seq.storeTo (cs' := e.enc) sz.api_Event (hH := by repeat (first | exact At.z | apply At.s)) (hfit := Nat.le_of_ble_eq_true rfl) (hcs := rfl) (k := ?_)
              refine Seq.p rfl Ev.assign ?_
              refine Seq.p rfl Ev.assign ?_
              refine Seq.nil ?_
              refine JC.ret ?_
              show retQ _ _ _ _ _ _ _ _
              refine retB3 ag.api_Event (hp := Part.nil _) (hpost := ?_)
              first
                | (rw [hP, if_neg c20, if_neg hno, if_neg (fun h => by rw [h] at c73; simp at c73)]; rfl)
                | (have hq : pq = (0, l.take R.size) := by
                     simp only [Bool.or_eq_false_iff, decide_eq_false_iff_not, Classical.not_not] at c73
                     have h2 := (strOf_inj hlb (fun n hn => hB n (List.mem_of_mem_take hn))).1 c73.2
                     exact Prod.ext c73.1 h2
                   rw [hP, if_neg c20, if_neg hno, if_pos hq]
                   rfl)
                | (rw [hP, if_neg c20, if_pos (.inl hne)]; rfl)
          · -- first 10
            refine Seq.alloc (cs := [_, _, _, _, _, _, _, _, _, _, _, _, _]) (hz := z.api_Event) (k := ?_); intro b9
            refine Seq.nil ⟨(by repeat (first | exact Part.refl _ | exact Part.nil _ | apply Part.here | apply Part.skip)), ?_⟩
            refine Any.one 9 rfl (by kernel_rfl) ?_
            refine Seq.callP rfl (v := .agg e.enc.toArray) (fun w' hw => by have h := msgEventOf (k := kd) (RM.up RM.own hw); rw [← he] at h; exact h) ?_
            refine Seq.nil ⟨(by repeat (first | exact Part.refl _ | exact Part.nil _ | apply Part.here | apply Part.skip)), ?_⟩
            refine Any.one 11 rfl (by kernel_rfl) ?_
            refine Seq.storeTo (cs' := e.enc) sz.api_Event (hH := by repeat (first | exact At.z | apply At.s)) (hfit := Nat.le_of_ble_eq_true rfl) (hcs := rfl) (k := ?_)
            refine Seq.nil ⟨(by repeat (first | exact Part.refl _ | exact Part.nil _ | apply Part.here | apply Part.skip)), ?_⟩
            refine Any.done (by kernel_rfl) ?_
            refine JC.seq ?_
            refine JC.rs ?_
            refine Seq.p rfl (Ev.ldBA (cs := e.enc) ag.api_Event) ?_
            refine Seq.call rfl (fun w' hw => by have h := msgEventLine (w := w') hwf (hL.t.upd hw); rw [← hpl0] at h; exact h) (F := _) (by exact List.Perm.refl _) ?_
            rintro _ _ ⟨A60, c60, rfl, rfl⟩
            simp only [List.cons_append, List.nil_append]
            rw [hpz]
            refine Seq.p rfl Ev.move ?_
            refine Seq.p rfl Ev.extract ?_
            refine Seq.p rfl Ev.extract ?_
            refine Seq.p rfl Ev.assign ?_
            refine Seq.p rfl Ev.assign ?_
            refine Seq.nil ?_
            refine JC.qs mixed (by kernel_rfl) ?_
            refine Qui.p rfl Ev.move ?_
            refine Qui.p rfl Ev.ne ?_
            refine Qui.p rfl Ev.move ?_
            refine Qui.orG (D := [65, 66, 67, 68, 69, 70, 71, 72, 73]) (d := 65) (t := 73) (k := 8) (hn := fun h65 => ?_) (hx := ?_)
            · repeat (first | refine Qui.gn rfl rfl rfl rfl ?_ | refine Qui.gu rfl rfl rfl ?_)
              refine Qui.p rfl Ev.pickT ?_
              exact Qui.nil ⟨(by repeat (first | with_reducible exact Off.refl | refine Off.upd ?_ rfl | exact Off.mix | refine Off.mix2 ?_ rfl)), Look.here⟩
            apply Exists.intro
            refine ⟨fun h65 => ?_, fun u73 => ?_⟩
            · try simp only [decide_eq_true_eq, decide_eq_false_iff_not, Bool.and_eq_true, Bool.or_eq_true, Bool.not_eq_true', Bool.not_eq_false', Bool.or_eq_false_iff, Bool.and_eq_false_imp] at h65
              refine Qui.gy rfl rfl rfl ?_
              refine Qui.p rfl Ev.move ?_
              refine Qui.gy rfl rfl rfl ?_
              refine Qui.p rfl (Ev.strOf (l := pq.2) sl.sl_uint8 it.uint8 st.string (hr := RAt.own (enc := byteEnc) (xs := pq.2))) ?_
              refine Qui.gy rfl rfl rfl ?_
              refine Qui.p rfl Ev.move ?_
              refine Qui.gy rfl rfl rfl ?_
              refine Qui.p rfl Ev.move ?_
              refine Qui.gy rfl rfl rfl ?_
              refine Qui.p rfl (Ev.cut sl.sl_uint8 (hr := hr.r) (l := 0) (h := R.size) (hlo := rfl) (hhi := ⟨_, (by repeat (first | exact Look.here | apply Look.there (hne := rfl) | exact Look.const | apply Look.mix rfl | exact Look.arg0 | apply Look.args | exact Look.func))⟩)) ?_
              refine Qui.gy rfl rfl rfl ?_
              refine Qui.p rfl (Ev.strOf (l := l.take R.size) sl.sl_uint8 it.uint8 st.string (hr := (hr.sub (lo := 0) (hi := R.size) (by omega) hsz).r)) ?_
              refine Qui.gy rfl rfl rfl ?_
              refine Qui.p rfl Ev.neStr ?_
              refine Qui.p rfl Ev.pickF ?_
              exact Qui.nil ⟨(by repeat (first | with_reducible exact Off.refl | refine Off.upd ?_ rfl | exact Off.mix | refine Off.mix2 ?_ rfl)), Look.here⟩
            refine Qui.nil ?_
            first | refine JC.c (ht := fun c73 => ?_) (hf := fun c73 => ?_) | refine JC.cb (ht := fun c73 => ?_) (hf := fun c73 => ?_)
            · -- then_t73
              refine JC.rs ?_
              refine Seq.p rfl (Ev.buildN [_, _, _, _, _, _, _, _, _, _, _, _, _] pl.api_Event z.api_Event) ?_
              refine Seq.storeN [_, _, _, _, _, _, _, _, _, _, _, _, _] sz.api_Event (k := ?_)
              refine Seq.p rfl Ev.assign ?_
              refine Seq.p rfl Ev.assign ?_
              refine Seq.nil ?_
              refine JC.ret ?_
              show retQ _ _ _ _ _ _ _ _
              refine retB3 ag.api_Event (hp := Part.nil _) (hpost := ?_)
              first
                | (rw [hP, if_neg c20, if_neg hno, if_neg (fun h => by rw [h] at c73; simp at c73)]; rfl)
                | (have hq : pq = (0, l.take R.size) := by
                     simp only [Bool.or_eq_false_iff, decide_eq_false_iff_not, Classical.not_not] at c73
                     have h2 := (strOf_inj hlb (fun n hn => hB n (List.mem_of_mem_take hn))).1 c73.2
                     exact Prod.ext c73.1 h2
                   rw [hP, if_neg c20, if_neg hno, if_pos hq]
                   rfl)
                | (rw [hP, if_neg c20, if_pos (.inl hne)]; rfl)
            · -- else_t73
              refine JC.skip ?_
              refine JC.rs ?_
              refine Seq.p rfl (Ev.ldBA (cs := e.enc) ag.api_Event) ?_
              refine Seq.p rfl Ev.move ?_
              refine Seq.storeTo (cs' := e.enc) sz.api_Event (hH := by repeat (first | exact At.z | apply At.s)) (hfit := Nat.le_of_ble_eq_true rfl) (hcs := rfl) (k := ?_)
              refine Seq.p rfl Ev.assign ?_
              refine Seq.p rfl Ev.assign ?_
              refine Seq.nil ?_
              refine JC.ret ?_
              show retQ _ _ _ _ _ _ _ _
              refine retB3 ag.api_Event (hp := Part.nil _) (hpost := ?_)
              first
                | (rw [hP, if_neg c20, if_neg hno, if_neg (fun h => by rw [h] at c73; simp at c73)]; rfl)
                | (have hq : pq = (0, l.take R.size) := by
                     simp only [Bool.or_eq_false_iff, decide_eq_false_iff_not, Classical.not_not] at c73
                     have h2 := (strOf_inj hlb (fun n hn => hB n (List.mem_of_mem_take hn))).1 c73.2
                     exact Prod.ext c73.1 h2
                   rw [hP, if_neg c20, if_neg hno, if_pos hq]
                   rfl)
                | (rw [hP, if_neg c20, if_pos (.inl hne)]; rfl)
        · -- first 10
          refine Seq.alloc (cs := [_, _, _, _, _, _, _, _, _, _, _, _, _]) (hz := z.api_Event) (k := ?_); intro b9
          refine Seq.nil ⟨(by repeat (first | exact Part.refl _ | exact Part.nil _ | apply Part.here | apply Part.skip)), ?_⟩
          refine Any.one 8 rfl (by kernel_rfl) ?_
          refine Seq.call rfl (fun w' hw => msgValued (RAt.up (RAt.own (enc := Tg.enc) (xs := R.tags) (hs := by omega)) hw) (fun t ht => by have := hts.1 t ht; omega) (hL.upd hw)) (F := _) (by exact List.Perm.refl _) ?_
          rintro _ _ ⟨bm, rfl, rfl⟩
          simp only [List.cons_append, List.nil_append]
          refine Seq.nil ⟨(by repeat (first | exact Part.refl _ | exact Part.nil _ | apply Part.here | apply Part.skip)), ?_⟩
          refine Any.one 9 rfl (by kernel_rfl) ?_
          refine Seq.callP rfl (v := .agg e.enc.toArray) (fun w' hw => by have h := msgEventOf (k := kd) (RM.up RM.own hw); rw [← he] at h; exact h) ?_
          refine Seq.nil ⟨(by repeat (first | exact Part.refl _ | exact Part.nil _ | apply Part.here | apply Part.skip)), ?_⟩
          refine Any.one 11 rfl (by kernel_rfl) ?_
          refine Seq.storeTo (cs' := e.enc) sz.api_Event (hH := by repeat (first | exact At.z | apply At.s)) (hfit := Nat.le_of_ble_eq_true rfl) (hcs := rfl) (k := ?_)
          refine Seq.nil ⟨(by repeat (first | exact Part.refl _ | exact Part.nil _ | apply Part.here | apply Part.skip)), ?_⟩
          refine Any.done (by kernel_rfl) ?_
          refine JC.seq ?_
          refine JC.rs ?_
          refine Seq.p rfl (Ev.ldBA (cs := e.enc) ag.api_Event) ?_
          refine Seq.call rfl (fun w' hw => by have h := msgEventLine (w := w') hwf (hL.t.upd hw); rw [← hpl0] at h; exact h) (F := _) (by exact List.Perm.refl _) ?_
          rintro _ _ ⟨A60, c60, rfl, rfl⟩
          simp only [List.cons_append, List.nil_append]
          rw [hpz]
          refine Seq.p rfl Ev.move ?_
          refine Seq.p rfl Ev.extract ?_
          refine Seq.p rfl Ev.extract ?_
          refine Seq.p rfl Ev.assign ?_
          refine Seq.p rfl Ev.assign ?_
          refine Seq.nil ?_
          refine JC.qs mixed (by kernel_rfl) ?_
          refine Qui.p rfl Ev.move ?_
          refine Qui.p rfl Ev.ne ?_
          refine Qui.p rfl Ev.move ?_
          refine Qui.orG (D := [65, 66, 67, 68, 69, 70, 71, 72, 73]) (d := 65) (t := 73) (k := 8) (hn := fun h65 => ?_) (hx := ?_)
          · repeat (first | refine Qui.gn rfl rfl rfl rfl ?_ | refine Qui.gu rfl rfl rfl ?_)
            refine Qui.p rfl Ev.pickT ?_
            exact Qui.nil ⟨(by repeat (first | with_reducible exact Off.refl | refine Off.upd ?_ rfl | exact Off.mix | refine Off.mix2 ?_ rfl)), Look.here⟩
          apply Exists.intro
          refine ⟨fun h65 => ?_, fun u73 => ?_⟩
          · try simp only [decide_eq_true_eq, decide_eq_false_iff_not, Bool.and_eq_true, Bool.or_eq_true, Bool.not_eq_true', Bool.not_eq_false', Bool.or_eq_false_iff, Bool.and_eq_false_imp] at h65
            refine Qui.gy rfl rfl rfl ?_
            refine Qui.p rfl Ev.move ?_
            refine Qui.gy rfl rfl rfl ?_
            refine Qui.p rfl (Ev.strOf (l := pq.2) sl.sl_uint8 it.uint8 st.string (hr := RAt.own (enc := byteEnc) (xs := pq.2))) ?_
            refine Qui.gy rfl rfl rfl ?_
            refine Qui.p rfl Ev.move ?_
            refine Qui.gy rfl rfl rfl ?_
            refine Qui.p rfl Ev.move ?_
            refine Qui.gy rfl rfl rfl ?_
            refine Qui.p rfl (Ev.cut sl.sl_uint8 (hr := hr.r) (l := 0) (h := R.size) (hlo := rfl) (hhi := ⟨_, (by repeat (first | exact Look.here | apply Look.there (hne := rfl) | exact Look.const | apply Look.mix rfl | exact Look.arg0 | apply Look.args | exact Look.func))⟩)) ?_
            refine Qui.gy rfl rfl rfl ?_
            refine Qui.p rfl (Ev.strOf (l := l.take R.size) sl.sl_uint8 it.uint8 st.string (hr := (hr.sub (lo := 0) (hi := R.size) (by omega) hsz).r)) ?_
            refine Qui.gy rfl rfl rfl ?_
            refine Qui.p rfl Ev.neStr ?_
            refine Qui.p rfl Ev.pickF ?_
            exact Qui.nil ⟨(by repeat (first | with_reducible exact Off.refl | refine Off.upd ?_ rfl | exact Off.mix | refine Off.mix2 ?_ rfl)), Look.here⟩
          refine Qui.nil ?_
          first | refine JC.c (ht := fun c73 => ?_) (hf := fun c73 => ?_) | refine JC.cb (ht := fun c73 => ?_) (hf := fun c73 => ?_)
          · -- then_t73
            refine JC.rs ?_
            refine Seq.p rfl (Ev.buildN [_, _, _, _, _, _, _, _, _, _, _, _, _] pl.api_Event z.api_Event) ?_
            refine Seq.storeN [_, _, _, _, _, _, _, _, _, _, _, _, _] sz.api_Event (k := ?_)
            refine Seq.p rfl Ev.assign ?_
            refine Seq.p rfl Ev.assign ?_
            refine Seq.nil ?_
            refine JC.ret ?_
            show retQ _ _ _ _ _ _ _ _
            refine retB3 ag.api_Event (hp := Part.nil _) (hpost := ?_)
            first
              | (rw [hP, if_neg c20, if_neg hno, if_neg (fun h => by rw [h] at c73; simp at c73)]; rfl)
              | (have hq : pq = (0, l.take R.size) := by
                   simp only [Bool.or_eq_false_iff, decide_eq_false_iff_not, Classical.not_not] at c73
                   have h2 := (strOf_inj hlb (fun n hn => hB n (List.mem_of_mem_take hn))).1 c73.2
                   exact Prod.ext c73.1 h2
                 rw [hP, if_neg c20, if_neg hno, if_pos hq]
                 rfl)
              | (rw [hP, if_neg c20, if_pos (.inl hne)]; rfl)
          · -- else_t73
            refine JC.skip ?_
            refine JC.rs ?_
            refine Seq.p rfl (Ev.ldBA (cs := e.enc) ag.api_Event) ?_
            refine Seq.p rfl Ev.move ?_
            refine Seq.storeTo (cs' := e.enc) sz.api_Event (hH := by repeat (first | exact At.z | apply At.s)) (hfit := Nat.le_of_ble_eq_true rfl) (hcs := rfl) (k := ?_)
            refine Seq.p rfl Ev.assign ?_
            refine Seq.p rfl Ev.assign ?_
            refine Seq.nil ?_
            refine JC.ret ?_
            show retQ _ _ _ _ _ _ _ _
            refine retB3 ag.api_Event (hp := Part.nil _) (hpost := ?_)
            first
              | (rw [hP, if_neg c20, if_neg hno, if_neg (fun h => by rw [h] at c73; simp at c73)]; rfl)
              | (have hq : pq = (0, l.take R.size) := by
                   simp only [Bool.or_eq_false_iff, decide_eq_false_iff_not, Classical.not_not] at c73
                   have h2 := (strOf_inj hlb (fun n hn => hB n (List.mem_of_mem_take hn))).1 c73.2
                   exact Prod.ext c73.1 h2
                 rw [hP, if_neg c20, if_neg hno, if_pos hq]
                 rfl)
              | (rw [hP, if_neg c20, if_pos (.inl hne)]; rfl)
    · try simp only [decide_eq_true_eq, decide_eq_false_iff_not] at h38
      have hne : notEv R := by
        unfold notEv
        simp only [Bool.or_eq_true, decide_eq_true_eq] at h38
        rcases h38 with (h | h) | h
        · exact .inl h
        · exact .inr (.inl (by omega))
        · exact .inr (.inr h)
      refine Seq.gn rfl rfl rfl rfl ?_
      refine Seq.gn rfl rfl rfl rfl ?_
      refine Seq.gn rfl rfl rfl rfl ?_
      refine Seq.gn rfl rfl rfl rfl ?_
      refine Seq.gn rfl rfl rfl rfl ?_
      refine Seq.gn rfl rfl rfl rfl ?_
      refine Seq.gn rfl rfl rfl rfl ?_
      refine Seq.p rfl Ev.pickT ?_
      refine Seq.nil ?_
      refine JC.cT (h := ?_)
      refine JC.rs ?_
      refine Seq.p rfl (Ev.buildN [_, _, _, _, _, _, _, _, _, _, _, _, _] pl.api_Event z.api_Event) ?_
      refine Seq.storeN [_, _, _, _, _, _, _, _, _, _, _, _, _] sz.api_Event (k := ?_)
      refine Seq.p rfl Ev.assign ?_
      refine Seq.p rfl Ev.assign ?_
      refine Seq.nil ?_
      refine JC.ret ?_
      show retQ _ _ _ _ _ _ _ _
      refine retB3 ag.api_Event (hp := Part.nil _) (hpost := ?_)
      first
        | (rw [hP, if_neg c20, if_neg hno, if_neg (fun h => by rw [h] at c73; simp at c73)]; rfl)
        | (have hq : pq = (0, l.take R.size) := by
             simp only [Bool.or_eq_false_iff, decide_eq_false_iff_not, Classical.not_not] at c73
             have h2 := (strOf_inj hlb (fun n hn => hB n (List.mem_of_mem_take hn))).1 c73.2
             exact Prod.ext c73.1 h2
           rw [hP, if_neg c20, if_neg hno, if_pos hq]
           rfl)
        | (rw [hP, if_neg c20, if_pos (.inl hne)]; rfl)
end Go.Rx
/- Lines read: the document's ReadLine. -/
namespace Go.Rx
open Go Go.RowKit Go.Lib Go.Proofs.YthpejgmkiomfhaaGreatDoor
set_option linter.unusedVariables false
set_option linter.unusedSimpArgs false
def numZ (xs : List Tg) (t : Int) : Int := match numT xs t with | some n => (n : Int) | none => 0
def rdGo (xs : List Tg) (l : List RF) (a : Input) : Input := l.foldl (fun a f => withF a f.tag (numZ xs f.tag)) a
theorem idx_letter {k : Int} (hk : 1 ≤ k ∧ k ≤ 4) {s : ByteArray} (h : letterF k = s) : idxF s = k := by
  subst h
  have : k = 1 ∨ k = 2 ∨ k = 3 ∨ k = 4 := by omega
  rcases this with rfl | rfl | rfl | rfl <;> decide
def readRefF (l : List Int) : Input × Int × Int :=
  if (readF l).why ≠ 0 then (input0, (readF l).place, (readF l).why)
  else if idxF (readF l).kind = 0 then (input0, 0, 41)
  else if lineF (rdGo (readF l).tags (refFieldsF (idxF (readF l).kind)) (bareF (idxF (readF l).kind))) = (0, l.take (readF l).size) then (rdGo (readF l).tags (refFieldsF (idxF (readF l).kind)) (bareF (idxF (readF l).kind)), ((readF l).size : Int), 0)
  else (input0, 0, 40)
end Go.Rx
/- Lines read: the document's ReadEvent. -/
namespace Go.Rx
open Go Go.RowKit Go.Lib Go.Proofs.YthpejgmkiomfhaaGreatDoor
set_option linter.unusedVariables false
set_option linter.unusedSimpArgs false
def evRd (xs : List Tg) (l : List RF) (a : Event) : Event := l.foldl (fun a f => withEventF a f.tag (numZ xs f.tag)) a
theorem dec_five : decS 1 = ⟨#[49]⟩ ∧ decS 2 = ⟨#[50]⟩ ∧ decS 3 = ⟨#[51]⟩ ∧ decS 4 = ⟨#[52]⟩ ∧ decS 5 = ⟨#[53]⟩ := by
  refine ⟨?_, ?_, ?_, ?_, ?_⟩ <;> decide +kernel
theorem kd_dec {m : Nat} (hm : 1 ≤ m ∧ m ≤ 5) {s : ByteArray} (h : decS m = s) : kdF s = (m : Int) := by
  obtain ⟨e1, e2, e3, e4, e5⟩ := dec_five
  subst h
  have : m = 1 ∨ m = 2 ∨ m = 3 ∨ m = 4 ∨ m = 5 := by omega
  rcases this with rfl | rfl | rfl | rfl | rfl
  · rw [e1]; decide
  · rw [e2]; decide
  · rw [e3]; decide
  · rw [e4]; decide
  · rw [e5]; decide
def evReadRefF (l : List Int) : Event × Int × Int :=
  if (readF l).why ≠ 0 then (ev0 0, (readF l).place, (readF l).why)
  else if notEv (readF l) ∨ kdF (readF l).tags[1]!.value = 0 then (ev0 0, 0, 41)
  else if evLineF (evRd (readF l).tags (toldRF (kdF (readF l).tags[1]!.value)) (ev0 (kdF (readF l).tags[1]!.value))) = (0, l.take (readF l).size) then (evRd (readF l).tags (toldRF (kdF (readF l).tags[1]!.value)) (ev0 (kdF (readF l).tags[1]!.value)), ((readF l).size : Int), 0)
  else (ev0 0, 0, 40)
end Go.Rx
/- What is told is read back: plain. -/
namespace Go.Rx
open Go Go.RowKit Go.Lib Go.Proofs.YthpejgmkiomfhaaGreatDoor
set_option linter.unusedVariables false
set_option linter.unusedSimpArgs false
def pT (p : Int × Int) : Tg := ⟨p.1, decS p.2.toNat⟩
def pRng (P : List (Int × Int)) : Prop := ∀ p ∈ P, 0 ≤ p.2 ∧ p.2 ≤ 18446744073709551615
theorem numT_of {P : List (Int × Int)} (hn : (P.map (·.1)).Nodup) (hr : pRng P) {p : Int × Int} (hp : p ∈ P) : numT (P.map pT) p.1 = some p.2.toNat := by
  have hf : (P.map pT).find? (fun t => decide (t.tag = p.1)) = some (pT p) := by
    clear hr
    induction P with
    | nil => cases hp
    | cons q P ih =>
      rw [List.map_cons, List.nodup_cons] at hn
      rw [List.map_cons, List.find?_cons]
      rcases List.mem_cons.1 hp with rfl | hp
      · rw [decide_eq_true (show (pT p).tag = p.1 from rfl)]
      · have hne : ¬ (pT q).tag = p.1 := fun h => hn.1 (by
          have h2 : q.1 = p.1 := h
          rw [h2]
          exact List.mem_map.2 ⟨p, hp, rfl⟩)
        rw [decide_eq_false hne]
        exact ih hn.2 hp
  unfold numT valueF
  rw [hf]
  have := hr p hp
  exact numOf_dec (by omega)
theorem numZ_of {P : List (Int × Int)} (hn : (P.map (·.1)).Nodup) (hr : pRng P) {p : Int × Int} (hp : p ∈ P) : numZ (P.map pT) p.1 = p.2 := by
  unfold numZ
  rw [numT_of hn hr hp]
  have := hr p hp
  show ((p.2.toNat : Nat) : Int) = p.2
  omega
theorem iput_new {m : List (Int × Int)} {k v : Int} (h : k ∉ m.map (·.1)) : iput m k v = m ++ [(k, v)] := by
  induction m with
  | nil => rfl
  | cons a m ih =>
    obtain ⟨a1, a2⟩ := a
    rw [List.map_cons, List.mem_cons, not_or] at h
    unfold iput
    rw [if_neg h.1, ih h.2]
    rfl
theorem foldl_iput (P m : List (Int × Int)) (hn : ((m ++ P).map (·.1)).Nodup) : P.foldl (fun m p => iput m p.1 p.2) m = m ++ P := by
  induction P generalizing m with
  | nil => simp
  | cons p P ih =>
    have h1 : p.1 ∉ m.map (·.1) := fun h => by
      rw [List.map_append, List.nodup_append] at hn
      exact hn.2.2 _ h _ (by simp) rfl
    rw [List.foldl_cons, iput_new h1, ih _ (by simpa using hn)]
    simp
theorem valued_of {P : List (Int × Int)} (hn : (P.map (·.1)).Nodup) (hr : pRng P) : valuedF (P.map pT) = P := by
  have key : ∀ (Q m : List (Int × Int)), (∀ p ∈ Q, p ∈ P) → (Q.map pT).foldl (valStep (P.map pT)) m = Q.foldl (fun m p => iput m p.1 p.2) m := by
    intro Q
    induction Q with
    | nil => intro m _; rfl
    | cons q Q ih =>
      intro m hq
      have hqm := hq q (List.mem_cons_self ..)
      rw [List.map_cons, List.foldl_cons, List.foldl_cons, ih _ (fun p hp => hq p (List.mem_cons_of_mem _ hp))]
      congr 1
      unfold valStep
      rw [show (pT q).tag = q.1 from rfl, numT_of hn hr hqm]
      have := hr q hqm
      show iput m q.1 ((q.2.toNat : Nat) : Int) = _
      congr 1
      omega
  have h := key P [] (fun p hp => hp)
  unfold valuedF valG
  rw [h, foldl_iput P [] (by simpa using hn)]
  rfl
theorem nums_of {fs : List Fld} (hn : (fs.map (·.tag)).Nodup) : numsF fs = fs.map fun f => (f.tag, f.num) := by
  have h := foldl_iput (fs.map fun f => (f.tag, f.num)) [] (by simpa [List.map_map, Function.comp_def] using hn)
  rw [List.foldl_map] at h
  unfold numsF
  rw [h]
  rfl
/-! ### inputs -/
theorem row_nodup (k : Int) : ((refFieldsF k).map (·.tag)).Nodup := by
  unfold refFieldsF
  (repeat' split) <;> decide
theorem valsGo_fst {i : Input} : ∀ (l : List RF) (s s' : Input × List Int), valsGo i l s = some s' → s'.1 = l.foldl (fun a f => withF a f.tag (inValF i f.tag).1) s.1
  | [], s, s', h => by
    simp only [valsGo, Option.some.injEq] at h
    subst h
    rfl
  | f :: r, s, s', h => by
    simp only [valsGo] at h
    cases hs : stepF i f s with
    | none => rw [hs] at h; cases h
    | some q =>
      rw [hs] at h
      have h2 := valsGo_fst r q s' h
      unfold stepF at hs
      split at hs
      · cases hs
      · split at hs
        · cases hs
        · simp only [Option.some.injEq] at hs
          subst hs
          exact h2
def inP (i : Input) : List (Int × Int) := (refFieldsF (nameF i)).map fun f => (f.tag, (inValF i f.tag).1)
theorem inP_nodup (i : Input) : ((inP i).map (·.1)).Nodup := by
  have := row_nodup (nameF i)
  simpa [inP, List.map_map, Function.comp_def] using this
theorem inP_range {i : Input} (hw : i.Wf) : pRng (inP i) := fun p hp => by
  obtain ⟨f, _, rfl⟩ := List.mem_map.1 hp
  exact inValF_range hw f.tag
theorem inP_tags (i : Input) : (refFieldsF (nameF i)).map (rfTg i) = (inP i).map pT := by
  unfold inP
  rw [List.map_map]
  rfl
theorem in_back {i : Input} (hw : i.Wf) (h : toldE i = 0) : ∃ s, lineF i = encF s ((inP i).map pT) ∧ s = letterF (nameF i) ∧ (1 ≤ nameF i ∧ nameF i ≤ 4) ∧ idxF s = nameF i ∧ inputF (nameF i) (valuedF ((inP i).map pT)) = i ∧ rdGo ((inP i).map pT) (refFieldsF (nameF i)) (bareF (nameF i)) = i := by
  obtain ⟨k, s, fs, hF⟩ := toldE_some h
  obtain ⟨h1, h2⟩ := told_same hF
  have hre : refE i = 0 := by rw [← toldE_eq hw]; exact h
  have hn0 : ¬ nameF i = 0 := fun h0 => by unfold refE at hre; rw [if_pos h0] at hre; cases hre
  have hnr := nameF_range i hn0
  have hk : k = nameF i := by
    unfold fieldsF at hF
    unfold nameF
    split at hF
    · rename_i hk
      simp only [Option.some.injEq, Prod.mk.injEq] at hF
      rw [if_pos hk]
      exact hF.1.symm
    · rename_i hk
      rw [if_neg hk]
      split at hF
      · cases hF
      · rename_i hk1
        have hk1 : i.kind = 1 := by omega
        split at hF
        · rename_i hc
          simp only [Option.some.injEq, Prod.mk.injEq] at hF
          rw [if_pos ⟨hk1, by omega, by omega⟩, hc]
          exact hF.1.symm
        · split at hF
          · rename_i hc
            simp only [Option.some.injEq, Prod.mk.injEq] at hF
            rw [if_pos ⟨hk1, by omega, by omega⟩, hc]
            exact hF.1.symm
          · split at hF
            · rename_i hc
              simp only [Option.some.injEq, Prod.mk.injEq] at hF
              rw [if_pos ⟨hk1, by omega, by omega⟩, hc]
              exact hF.1.symm
            · cases hF
  have hc : inputF k (numsF fs) = i := by
    unfold toldE at h
    rw [hF] at h
    dsimp only at h
    split at h
    · rename_i hc; exact hc.2
    · cases h
  have hfi := (fieldsF_fine hw hF).2
  have htg : fs.map (·.tag) = (inP i).map (·.1) := by
    have := congrArg (List.map Tg.tag) (h2.trans (inP_tags i))
    simpa [List.map_map, Function.comp_def, tgOf, pT] using this
  have hnd : (fs.map (·.tag)).Nodup := htg ▸ inP_nodup i
  have hPf : (fs.map fun f => (f.tag, f.num)) = inP i := by
    have hA : fs.map tgOf = (fs.map fun f => (f.tag, f.num)).map pT := by rw [List.map_map]; rfl
    have hB := valued_of (P := fs.map fun f => (f.tag, f.num)) (by simpa [List.map_map, Function.comp_def] using hnd) (fun p hp => by
      obtain ⟨f, hf, rfl⟩ := List.mem_map.1 hp
      exact (hfi f hf).1)
    have hC := valued_of (inP_nodup i) (inP_range hw)
    rw [← hA, h2, inP_tags, hC] at hB
    exact hB.symm
  refine ⟨s, ?_, h1, hnr, ?_, ?_, ?_⟩
  · rw [lineF_ok h hF, h2, inP_tags]
  · rw [h1]; exact idx_letter hnr rfl
  · rw [valued_of (inP_nodup i) (inP_range hw), ← hPf, ← nums_of hnd, ← hk]
    exact hc
  · have hv : ∃ s0, valsGo i (refFieldsF (nameF i)) (bareF (nameF i), []) = some s0 ∧ s0.1 = i := by
      unfold refE at hre
      rw [if_neg hn0] at hre
      cases hv : valsGo i (refFieldsF (nameF i)) (bareF (nameF i), []) with
      | none => rw [hv] at hre; cases hre
      | some s0 =>
        rw [hv] at hre
        dsimp only at hre
        split at hre
        · rename_i he; exact ⟨s0, rfl, he⟩
        · cases hre
    obtain ⟨s0, hv1, hv2⟩ := hv
    have h3 := valsGo_fst _ _ _ hv1
    have key : ∀ (l : List RF) (a : Input), (∀ f ∈ l, f ∈ refFieldsF (nameF i)) → rdGo ((inP i).map pT) l a = l.foldl (fun a f => withF a f.tag (inValF i f.tag).1) a := by
      intro l
      induction l with
      | nil => intro a _; rfl
      | cons f l ih =>
        intro a hl
        show rdGo ((inP i).map pT) l (withF a f.tag (numZ ((inP i).map pT) f.tag)) = _
        rw [ih _ (fun g hg => hl g (List.mem_cons_of_mem _ hg)), List.foldl_cons]
        have hm : (f.tag, (inValF i f.tag).1) ∈ inP i := List.mem_map.2 ⟨f, hl f (List.mem_cons_self ..), rfl⟩
        rw [numZ_of (inP_nodup i) (inP_range hw) hm]
    rw [key _ _ (fun f hf => hf), ← h3]
    exact hv2
end Go.Rx
/- What is told of an event is read back: plain. -/
namespace Go.Rx
open Go Go.RowKit Go.Lib Go.Proofs.YthpejgmkiomfhaaGreatDoor
set_option linter.unusedVariables false
set_option linter.unusedSimpArgs false
def evQ (e : Event) : List (Int × Int) := (toldRF e.kind).map fun f => (f.tag, (eventValueF e f.tag).1)
def ins150 (k : Int) : List (Int × Int) → List (Int × Int)
  | [] => []
  | a :: r => a :: (150, k) :: r
def evP (e : Event) : List (Int × Int) := ins150 e.kind (evQ e)
theorem evP_tags (e : Event) : evTags e (toldRF e.kind) = (evP e).map pT := by
  unfold evP evQ
  cases h : toldRF e.kind with
  | nil => rfl
  | cons f r =>
    show evTg e f :: kindTg e :: r.map (evTg e) = pT (f.tag, _) :: pT (150, e.kind) :: (r.map _).map pT
    rw [List.map_map]
    rfl
theorem told_nodup (k : Int) : ((toldRF k).map (·.tag)).Nodup ∧ 150 ∉ (toldRF k).map (·.tag) := by
  unfold toldRF
  (repeat' split) <;> decide
theorem evQ_fst (e : Event) : (evQ e).map (·.1) = (toldRF e.kind).map (·.tag) := by simp [evQ, List.map_map, Function.comp_def]
theorem evP_nodup (e : Event) : ((evP e).map (·.1)).Nodup := by
  obtain ⟨h1, h2⟩ := told_nodup e.kind
  rw [← evQ_fst] at h1 h2
  unfold evP
  cases hq : evQ e with
  | nil => simp [ins150]
  | cons a r =>
    rw [hq] at h1 h2
    rw [List.map_cons, List.nodup_cons] at h1
    rw [List.map_cons, List.mem_cons, not_or] at h2
    show ((a :: (150, e.kind) :: r).map (·.1)).Nodup
    rw [List.map_cons, List.map_cons, List.nodup_cons, List.nodup_cons, List.mem_cons, not_or]
    exact ⟨⟨fun h => h2.1 h.symm, h1.1⟩, h2.2, h1.2⟩
theorem evQ_range {e : Event} (hw : e.Wf) : pRng (evQ e) := fun p hp => by
  obtain ⟨f, _, rfl⟩ := List.mem_map.1 hp
  exact eventValueF_range hw f.tag
theorem evP_range {e : Event} (hw : e.Wf) (hk : 1 ≤ e.kind ∧ e.kind ≤ 5) : pRng (evP e) := by
  have h := evQ_range hw
  unfold evP
  cases hq : evQ e with
  | nil => intro p hp; cases hp
  | cons a r =>
    rw [hq] at h
    intro p hp
    rcases List.mem_cons.1 hp with rfl | hp
    · exact h _ (List.mem_cons_self ..)
    · rcases List.mem_cons.1 hp with rfl | hp
      · show 0 ≤ e.kind ∧ e.kind ≤ _; omega
      · exact h _ (List.mem_cons_of_mem _ hp)
theorem iget_skip {k : Int} {P : List (Int × Int)} {t : Int} (ht : t ≠ 150) : iget (ins150 k P) t = iget P t := by
  cases P with
  | nil => rfl
  | cons a r =>
    obtain ⟨a1, a2⟩ := a
    show (if t = a1 then a2 else if t = 150 then k else iget r t) = if t = a1 then a2 else iget r t
    rw [if_neg ht]
theorem evValsGo_fst {i : Event} : ∀ (l : List RF) (s s' : Event × List Int), evValsGo i l s = some s' → s'.1 = l.foldl (fun a f => withEventF a f.tag (eventValueF i f.tag).1) s.1
  | [], s, s', h => by
    simp only [evValsGo, Option.some.injEq] at h
    subst h
    rfl
  | f :: r, s, s', h => by
    simp only [evValsGo] at h
    cases hs : evStepF i f s with
    | none => rw [hs] at h; cases h
    | some q =>
      rw [hs] at h
      have h2 := evValsGo_fst r q s' h
      unfold evStepF at hs
      split at hs
      · cases hs
      · split at hs
        · cases hs
        · simp only [Option.some.injEq] at hs
          subst hs
          exact h2
theorem told_two {k : Int} (hk : 1 ≤ k ∧ k ≤ 5) : ∃ f r, toldRF k = f :: r := by
  cases h : toldRF k with
  | nil => have := toldRF_pos hk; rw [h] at this; simp at this
  | cons f r => exact ⟨f, r, rfl⟩
theorem ev_back {e : Event} (hw : e.Wf) (h : toldEvE e = 0) : evLineF e = encF ⟨#[56]⟩ ((evP e).map pT) ∧ (1 ≤ e.kind ∧ e.kind ≤ 5) ∧ (2 ≤ ((evP e).map pT).length ∧ ((evP e).map pT)[1]!.tag = 150 ∧ ((evP e).map pT)[1]!.value = decS e.kind.toNat) ∧
    eventOfF e.kind (valuedF ((evP e).map pT)) = e ∧ evRd ((evP e).map pT) (toldRF e.kind) (ev0 e.kind) = e := by
  have hre : refEvE e = 0 := by rw [← toldEvE_eq hw]; exact h
  obtain ⟨fs, hF⟩ : ∃ fs, evFieldsF e = some fs := by
    unfold toldEvE at h
    cases hF : evFieldsF e with
    | none => rw [hF] at h; cases h
    | some fs => exact ⟨fs, rfl⟩
  have hk := (evFieldsF_small hF).2
  have hc : eventOfF e.kind (numsF fs) = e := by
    unfold toldEvE at h
    rw [hF] at h
    dsimp only at h
    split at h
    · rename_i hc; exact hc.2
    · cases h
  have h2 := toldEv_same hF
  have hfi := (evFieldsF_fine hw hF).2
  have hQt : (toldRF e.kind).map (evTg e) = (evQ e).map pT := by unfold evQ; rw [List.map_map]; rfl
  have hqn : ((evQ e).map (·.1)).Nodup := by rw [evQ_fst]; exact (told_nodup e.kind).1
  have htg : fs.map (·.tag) = (evQ e).map (·.1) := by
    have := congrArg (List.map Tg.tag) (h2.trans hQt)
    simpa [List.map_map, Function.comp_def, tgOf, pT] using this
  have hnd : (fs.map (·.tag)).Nodup := htg ▸ hqn
  have hPf : (fs.map fun f => (f.tag, f.num)) = evQ e := by
    have hA : fs.map tgOf = (fs.map fun f => (f.tag, f.num)).map pT := by rw [List.map_map]; rfl
    have hB := valued_of (P := fs.map fun f => (f.tag, f.num)) (by simpa [List.map_map, Function.comp_def] using hnd) (fun p hp => by
      obtain ⟨f, hf, rfl⟩ := List.mem_map.1 hp
      exact (hfi f hf).1)
    have hC := valued_of hqn (evQ_range hw)
    rw [← hA, h2, hQt, hC] at hB
    exact hB.symm
  obtain ⟨f0, r0, hfr⟩ := told_two hk
  have hqs : evQ e = (f0.tag, (eventValueF e f0.tag).1) :: r0.map fun f => (f.tag, (eventValueF e f.tag).1) := by unfold evQ; rw [hfr]; rfl
  have hps : evP e = (f0.tag, (eventValueF e f0.tag).1) :: (150, e.kind) :: r0.map fun f => (f.tag, (eventValueF e f.tag).1) := by unfold evP; rw [hqs]; rfl
  refine ⟨?_, hk, ?_, ?_, ?_⟩
  · unfold evLineF
    rw [if_pos hre, evP_tags]
  · rw [hps]
    exact ⟨by simp, rfl, rfl⟩
  · rw [valued_of (evP_nodup e) (evP_range hw hk)]
    have h3 : ∀ t, t ≠ 150 → iget (evP e) t = iget (numsF fs) t := fun t ht => by
      rw [nums_of hnd, hPf]
      exact iget_skip ht
    refine Eq.trans ?_ hc
    unfold eventOfF
    rw [h3 34 (by decide), h3 11 (by decide), h3 37 (by decide), h3 41 (by decide), h3 1 (by decide), h3 54 (by decide), h3 40 (by decide), h3 44 (by decide), h3 38 (by decide), h3 210 (by decide), h3 378 (by decide), h3 103 (by decide)]
  · have hv : ∃ s0, evValsGo e (toldRF e.kind) (ev0 e.kind, []) = some s0 ∧ s0.1 = e := by
      unfold refEvE at hre
      rw [if_neg (fun hn => hn hk)] at hre
      cases hv : evValsGo e (toldRF e.kind) (ev0 e.kind, []) with
      | none => rw [hv] at hre; cases hre
      | some s0 =>
        rw [hv] at hre
        dsimp only at hre
        split at hre
        · rename_i he; exact ⟨s0, rfl, he⟩
        · cases hre
    obtain ⟨s0, hv1, hv2⟩ := hv
    have h3 := evValsGo_fst _ _ _ hv1
    have key : ∀ (l : List RF) (a : Event), (∀ f ∈ l, f ∈ toldRF e.kind) → evRd ((evP e).map pT) l a = l.foldl (fun a f => withEventF a f.tag (eventValueF e f.tag).1) a := by
      intro l
      induction l with
      | nil => intro a _; rfl
      | cons f l ih =>
        intro a hl
        show evRd ((evP e).map pT) l (withEventF a f.tag (numZ ((evP e).map pT) f.tag)) = _
        rw [ih _ (fun g hg => hl g (List.mem_cons_of_mem _ hg)), List.foldl_cons]
        have hm : (f.tag, (eventValueF e f.tag).1) ∈ evP e := by
          have h5 : (f.tag, (eventValueF e f.tag).1) ∈ evQ e := List.mem_map.2 ⟨f, hl f (List.mem_cons_self ..), rfl⟩
          rw [hqs] at h5
          rw [hps]
          rcases List.mem_cons.1 h5 with h5 | h5
          · rw [h5]; exact List.mem_cons_self ..
          · exact List.mem_cons_of_mem _ (List.mem_cons_of_mem _ h5)
        rw [numZ_of (evP_nodup e) (evP_range hw hk) hm]
    rw [key _ _ (fun f hf => hf), ← h3]
    exact hv2
theorem evLine_told {e : Event} (hw : e.Wf) {L : List Int} (h : evLineF e = (0, L)) : toldEvE e = 0 := Classical.not_not.1 fun hn => by
  rw [evLineF_err hw hn] at h
  exact hn (congrArg Prod.fst h)
theorem evRead_canon {e : Event} (hw : e.Wf) {l : List Int} {n : Nat} (h : evLineF e = (0, l.take n)) : ¬ notEv (readF l) ∧ (1 ≤ e.kind ∧ e.kind ≤ 5) ∧ kdF (readF l).tags[1]!.value = e.kind ∧ eventOfF e.kind (valuedF (readF l).tags) = e ∧ evRd (readF l).tags (toldRF e.kind) (ev0 e.kind) = e ∧ (readF l).kind = ⟨#[56]⟩ := by
  have h0 := evLine_told hw h
  obtain ⟨h1, h2, ⟨h3, h4, h5⟩, h6, h7⟩ := ev_back hw h0
  rw [h1] at h
  have h8 := read_enc h (l.drop n)
  rw [List.take_append_drop] at h8
  rw [h8]
  refine ⟨?_, h2, ?_, h6, h7, rfl⟩
  · rintro (h | h | h)
    · exact h rfl
    · exact absurd h (by show ¬ ((evP e).map pT).length < 2; omega)
    · exact h h4
  · show kdF ((evP e).map pT)[1]!.value = e.kind
    rw [h5, kd_dec (m := e.kind.toNat) (by omega) rfl]
    omega
theorem dec_value (n : Nat) (h : n ≤ 18446744073709551615) : valueB (decS n) = true := by
  unfold valueB
  have h1 := (decS_facts h).1
  have h2 : bytesOf (decS n) = decL n := by
    rw [← strOf_dec]
    exact bytesOf_str (decL_bytes n)
  rw [h2, decide_eq_true h1, Bool.true_and, List.all_eq_true]
  intro c hc
  have := decL_digit n c hc
  unfold printB
  rw [decide_eq_true (by omega), decide_eq_true (by omega)]
  rfl
theorem encE_zero : ∀ (xs seen : List Tg), (∀ t ∈ xs, tagB t.tag = true ∧ valueB t.value = true) → ((seen ++ xs).map (·.tag)).Nodup → encE seen xs = 0
  | [], _, _, _ => rfl
  | t :: r, seen, h, hn => by
    have h1 := h t (List.mem_cons_self ..)
    have hno : thereB seen t.tag = false := by
      unfold thereB
      rw [List.any_eq_false]
      intro x hx he
      have he' : x.tag = t.tag := by simpa using he
      rw [List.map_append, List.nodup_append] at hn
      exact hn.2.2 _ (List.mem_map.2 ⟨x, hx, rfl⟩) _ (by simp) he'
    have hz : refusedF seen t = 0 := by
      unfold refusedF
      rw [h1.1, h1.2, hno]
      rfl
    unfold encE
    rw [if_neg (by rw [hz]; decide)]
    refine encE_zero r _ (fun x hx => h x (List.mem_cons_of_mem _ hx)) ?_
    simpa using hn
theorem enc_ok {kind : ByteArray} {P : List (Int × Int)} (hk : kindB kind = true) (hk2 : kind.size ≤ 2) (hl : P.length ≤ 9) (hn : (P.map (·.1)).Nodup) (hr : pRng P) (ht : ∀ p ∈ P, tagB p.1 = true ∧ p.1.toNat < 10000) : (encF kind (P.map pT)).1 = 0 := by
  have hx : ∀ t ∈ P.map pT, tagB t.tag = true ∧ valueB t.value = true ∧ t.tag.toNat < 10000 ∧ t.value.size ≤ 20 := fun t h => by
    obtain ⟨p, hp, rfl⟩ := List.mem_map.1 h
    have h1 := hr p hp
    exact ⟨(ht p hp).1, dec_value _ (by omega), (ht p hp).2, (decS_facts (n := p.2.toNat) (by omega)).2.1⟩
  have he := encE_zero (P.map pT) [] (fun t h => ⟨(hx t h).1, (hx t h).2.1⟩) (by simpa [List.map_map, Function.comp_def, pT] using hn)
  have hb : (bodyL kind (P.map pT)).length ≤ 300 := by
    unfold bodyL
    rw [List.length_append, field_len]
    have h1 := decL_four (n := 35) (by decide)
    have h2 := flat_small (fun t : Tg => fieldL t.tag.toNat t.value) 26 (P.map pT) (fun t h => by
      have := (hx t h).2.2
      have := decL_four this.1
      rw [field_len]
      omega)
    rw [List.length_map] at h2
    omega
  have h3 := line_len kind (P.map pT)
  have h5 := decL_four (n := (bodyL kind (P.map pT)).length) (by omega)
  rw [encF_line (by rw [hk]; decide) (by rw [List.length_map]; omega) (by rw [he]; decide) (by omega)]
theorem line_err {i : Input} (hw : i.Wf) : (lineF i).1 = toldE i := by
  by_cases h : toldE i = 0
  · obtain ⟨s, h1, h2, h3, _⟩ := in_back hw h
    rw [h1, h]
    have htags : ∀ k : Int, ((refFieldsF k).all fun f => tagB f.tag && decide (f.tag.toNat < 10000)) = true := fun k => by
      unfold refFieldsF
      (repeat' split) <;> decide
    have hsm := refFieldsF_small (nameF i)
    refine enc_ok ?_ (by rw [h2]; exact letter_size _) (by unfold inP; rw [List.length_map]; omega) (inP_nodup i) (inP_range hw) (fun p hp => ?_)
    · rw [h2]
      have : nameF i = 1 ∨ nameF i = 2 ∨ nameF i = 3 ∨ nameF i = 4 := by omega
      rcases this with h | h | h | h <;> rw [h] <;> decide
    · obtain ⟨f, hf, rfl⟩ := List.mem_map.1 hp
      have := List.all_eq_true.1 (htags (nameF i)) f hf
      rw [Bool.and_eq_true] at this
      exact ⟨this.1, of_decide_eq_true this.2⟩
  · rw [lineF_err h]
theorem evLine_err {e : Event} (hw : e.Wf) : (evLineF e).1 = toldEvE e := by
  by_cases h : toldEvE e = 0
  · obtain ⟨h1, hk, _⟩ := ev_back hw h
    rw [h1, h]
    have htags : ∀ k : Int, ((toldRF k).all fun f => tagB f.tag && decide (f.tag.toNat < 10000)) = true := fun k => by
      unfold toldRF
      (repeat' split) <;> decide
    have hsm := toldRF_small e.kind
    obtain ⟨f0, r0, hfr⟩ := told_two hk
    have hps : evP e = (f0.tag, (eventValueF e f0.tag).1) :: (150, e.kind) :: r0.map fun f => (f.tag, (eventValueF e f.tag).1) := by unfold evP evQ; rw [hfr]; rfl
    have hall : ∀ f ∈ toldRF e.kind, tagB f.tag = true ∧ f.tag.toNat < 10000 := fun f hf => by
      have := List.all_eq_true.1 (htags e.kind) f hf
      rw [Bool.and_eq_true] at this
      exact ⟨this.1, of_decide_eq_true this.2⟩
    refine enc_ok (by decide) (by decide) (by rw [hps]; rw [hfr] at hsm; simp at hsm ⊢; omega) (evP_nodup e) (evP_range hw hk) (fun p hp => ?_)
    rw [hps] at hp
    rw [hfr] at hall
    rcases List.mem_cons.1 hp with rfl | hp
    · exact hall f0 (List.mem_cons_self ..)
    · rcases List.mem_cons.1 hp with rfl | hp
      · show tagB 150 = true ∧ Int.toNat 150 < 10000; decide
      · obtain ⟨f, hf, rfl⟩ := List.mem_map.1 hp
        exact hall f (List.mem_cons_of_mem _ hf)
  · rw [evLineF_err hw h]
end Go.Rx
/- The laws bourselaw04.MessageReads, MessageBack, MessageOneForm give true. -/
namespace Go.Rx
open Go Go.RowKit Go.Lib Go.Proofs.YthpejgmkiomfhaaGreatDoor
set_option linter.unusedVariables false
set_option linter.unusedSimpArgs false
theorem back_line {i : Input} (hw : i.Wf) (h : toldE i = 0) : readLineF (lineF i).2 = (i, ((lineF i).2.length : Int), 0) := by
  have h1 : lineF i = (0, (lineF i).2) := Prod.ext (by rw [line_err hw, h]) rfl
  obtain ⟨s, h2, h3, h4, h5, h6, h7⟩ := in_back hw h
  have hE := h2 ▸ h1
  have hR := read_enc (h2.symm.trans h1) []
  rw [List.append_nil] at hR
  obtain ⟨L, hL⟩ : ∃ L, L = (lineF i).2 := ⟨_, rfl⟩
  rw [← hL] at h1 hR ⊢
  have hwy : ¬ (readF L).why ≠ 0 := by rw [hR]; exact fun h => h rfl
  have hsz : L.take (readF L).size = L := by rw [hR]; exact List.take_length
  have hk : (readF L).kind = s := by rw [hR]
  have ht : (readF L).tags = (inP i).map pT := by rw [hR]
  have hs : (readF L).size = L.length := by rw [hR]
  unfold readLineF
  rw [if_neg hwy, hk, h5, if_neg (by omega), ht, h6, hsz, if_pos h1, hs]
theorem back_evLine {e : Event} (hw : e.Wf) (h : toldEvE e = 0) : evReadF (evLineF e).2 = (e, ((evLineF e).2.length : Int), 0) := by
  have h1 : evLineF e = (0, (evLineF e).2) := Prod.ext (by rw [evLine_err hw, h]) rfl
  obtain ⟨h2, h3, ⟨h4, h5, h6⟩, h7, h8⟩ := ev_back hw h
  have hR := read_enc (h2.symm.trans h1) []
  rw [List.append_nil] at hR
  obtain ⟨L, hL⟩ : ∃ L, L = (evLineF e).2 := ⟨_, rfl⟩
  rw [← hL] at h1 hR ⊢
  have hsz : L.take (readF L).size = L := by rw [hR]; exact List.take_length
  obtain ⟨a, b, c, d, _, _⟩ := evRead_canon hw (l := L) (n := (readF L).size) (by rw [hsz]; exact h1)
  have hwy : ¬ (readF L).why ≠ 0 := by rw [hR]; exact fun h => h rfl
  have hs : (readF L).size = L.length := by rw [hR]
  unfold evReadF
  rw [if_neg hwy, if_neg (fun hn => hn.elim a (fun h0 => by rw [c] at h0; omega)), c, d, hsz, if_pos h1, hs]
/-! ### frames -/
end Go.Rx
/- The law bourselaw04.MessageReads gives true. -/
namespace Go.Rx
open Go Go.RowKit Go.Lib Go.Proofs.YthpejgmkiomfhaaGreatDoor
set_option linter.unusedVariables false
set_option linter.unusedSimpArgs false
theorem RSl.pre {α : Type} [Inhabited α] {enc : α → List Value} {sz : Nat} {w : World} {Cs : List Chunk} {A : Option Addr} {m c k : Nat} {xs : List α} (h : RSl enc sz w Cs (.slice A m c) xs) (hm : m = xs.length) (hk : k ≤ m) : RSl enc sz w Cs (.slice A k c) (xs.take k) := by
  have h1 := h.sub (lo := 0) (hi := k) (Nat.zero_le _) (by omega)
  have e : subSl (.slice A m c) 0 k sz = .slice A k c := by
    unfold subSl
    cases A with
    | none => simp
    | some a =>
      have : a.add (0 * sz) = a := by rw [Nat.zero_mul]; exact Addr.add_zero a
      simp [this, Addr.add_zero]
  rw [e] at h1
  simpa using h1
end Go.Rx
/- What can be told of an event is read back from its frame: plain. -/
namespace Go.Rx
open Go Go.RowKit Go.Lib Go.Proofs.YthpejgmkiomfhaaGreatDoor
set_option linter.unusedVariables false
set_option linter.unusedSimpArgs false
theorem up_nil (n : Int) : up 0 n = 0 := by
  unfold up
  rw [Int.zero_mul]
  rfl
theorem evUnpackX_of {e x : Event} {k : Int} {ws : List Int} {fs0 : List Fld} (hP : packEvF e = (⟨64 + k, ws⟩, 0)) (hk : 1 ≤ k ∧ k ≤ 5) (hF : evFieldsF (ev0 k) = some fs0) (hx : eventOfF k (someF fs0 (evWordsM ws)) = e) : unpackEvF (packEvF e).1 = (e, 0) := by
  have h1 : (packEvF e).1 = ⟨64 + k, ws⟩ := by rw [hP]
  have hkk : (64 + k) - 64 = k := by omega
  have hU : unpackEvX (64 + k) fs0 ws = e := by unfold unpackEvX; rw [hkk]; exact hx
  rw [h1]
  unfold unpackEvF
  dsimp only
  rw [hkk, hF]
  dsimp only
  rw [hU, hP]
  exact if_pos ⟨rfl, rfl⟩
theorem packEv_back {e : Event} (hw : e.Wf) (h : toldEvE e = 0) : unpackEvF (packEvF e).1 = (e, 0) := by
  obtain ⟨fs, hF⟩ : ∃ fs, evFieldsF e = some fs := by
    unfold toldEvE at h
    cases hF : evFieldsF e with
    | none => rw [hF] at h; cases h
    | some fs => exact ⟨fs, rfl⟩
  have hc : fs.all (·.fits) = true ∧ eventOfF e.kind (numsF fs) = e := by
    unfold toldEvE at h
    rw [hF] at h
    dsimp only at h
    split at h
    · rename_i hc; exact hc
    · cases h
  have hP : packEvF e = (evFrameF e.kind (numsF fs), 0) := by unfold packEvF; rw [if_pos h, hF]
  obtain ⟨hf, he⟩ := hc
  have hseq := hw.seq; have hid := hw.id; have hot := hw.other; have htg := hw.target; have hme := hw.member; have hqt := hw.qty; have hpk := hw.peak
  clear h
  obtain ⟨seq, kind, id, other, target, member, side, type, price, qty, peak, reason, code⟩ := e
  dsimp only at hseq hid hot htg hme hqt hpk hP he hF
  have a0 : ∀ {n : Int}, 0 ≤ n ∧ n ≤ 18446744073709551615 → add64 n 0 = n := fun {n} hn => by unfold add64; omega
  have a1 : ∀ {n : Int}, 0 ≤ n ∧ n ≤ 18446744073709551615 → add64 0 n = n := fun {n} hn => by unfold add64; omega
  unfold evFieldsF at hF
  dsimp only at hF
  split at hF
  · rename_i hk
    subst hk
    simp only [Option.some.injEq] at hF
    subst hF
    simp only [evFields1, List.all_cons, List.all_nil, Bool.and_true, Bool.and_eq_true] at hf
    have hb1 := fits_up hf.2.2.2.1
    have hb2 := fits_up hf.2.2.2.2.1
    have hb3 := fits_up hf.2.2.2.2.2.1
    have hA : numsF (evFields1 ⟨seq, 1, id, other, target, member, side, type, price, qty, peak, reason, code⟩) = [(34, seq), (11, id), (1, member % 18446744073709551616), (54, side % 18446744073709551616), (40, type % 18446744073709551616), (44, price % 18446744073709551616), (38, qty), (210, peak)] := rfl
    have hm' : member % 18446744073709551616 = member := by omega
    have hs' : side % 18446744073709551616 = side := by omega
    have ht' : type % 18446744073709551616 = type := by omega
    have hp' : price % 18446744073709551616 = price := by omega
    rw [hA, hm', hs', ht', hp'] at he hP
    have ew : add64 (add64 (add64 member (up side 32)) (up type 40)) (up 0 48) = member + side * 4294967296 + type * 1099511627776 + 0 * 281474976710656 := by
      rw [up_32 (by omega), up_40 (by omega), up_nil]
      unfold add64
      omega
    obtain ⟨w1, w2, w3, _⟩ := word_parts (m := member) (s := side) (t := type) (r := 0) (by omega) (by omega) (by omega) (by omega) _ ew
    refine evUnpackX_of (x := default) (k := 1) (ws := [seq, id, add64 0 0, add64 (add64 (add64 member (up side 32)) (up type 40)) (up 0 48), add64 price (up 0 32), qty, peak]) (fs0 := evFields1 (ev0 1)) (by rw [hP]; rfl) (by decide) rfl ?_
    rw [← he]
    show (⟨seq, 1, id, 0, 0, andU (add64 (add64 (add64 member (up side 32)) (up type 40)) (up 0 48)) 4294967295 % 4294967296, s64 (andU (down (add64 (add64 (add64 member (up side 32)) (up type 40)) (up 0 48)) 32) 255), s64 (andU (down (add64 (add64 (add64 member (up side 32)) (up type 40)) (up 0 48)) 40) 255), s64 (andU (add64 price (up 0 32)) 4294967295), qty, peak, s64 0, s64 0⟩ : Event) = ⟨seq, 1, id, 0, 0, member % 4294967296, s64 side, s64 type, s64 price, qty, peak, s64 0, s64 0⟩
    rw [w1, w2, w3, up_nil, a0 (by omega), andU_m32 (by omega)]
  · split at hF
    · rename_i hk
      subst hk
      simp only [Option.some.injEq] at hF
      subst hF
      simp only [evFields2, List.all_cons, List.all_nil, Bool.and_true, Bool.and_eq_true] at hf
      have hb1 := fits_up hf.2.2.2
      have hA : numsF (evFields2 ⟨seq, 2, id, other, target, member, side, type, price, qty, peak, reason, code⟩) = [(34, seq), (11, id), (41, target), (103, code % 18446744073709551616)] := rfl
      have hp' : code % 18446744073709551616 = code := by omega
      rw [hA, hp'] at he hP
      have ew : add64 0 (up code 32) = code * 4294967296 := by
        rw [up_32 (by omega)]
        unfold add64
        omega
      refine evUnpackX_of (x := default) (k := 2) (ws := [seq, id, add64 0 target, add64 (add64 (add64 0 (up 0 32)) (up 0 40)) (up 0 48), add64 0 (up code 32), 0, 0]) (fs0 := evFields2 (ev0 2)) (by rw [hP]; rfl) (by decide) rfl ?_
      rw [← he]
      show (⟨seq, 2, id, 0, add64 0 target, 0 % 4294967296, s64 0, s64 0, s64 0, 0, 0, s64 0, s64 (down (add64 0 (up code 32)) 32)⟩ : Event) = ⟨seq, 2, id, 0, target, 0 % 4294967296, s64 0, s64 0, s64 0, 0, 0, s64 0, s64 code⟩
      rw [a1 htg, ew, down_32]
      congr 2
      omega
    · split at hF
      · rename_i hk
        subst hk
        simp only [Option.some.injEq] at hF
        subst hF
        simp only [evFields3, List.all_cons, List.all_nil, Bool.and_true, Bool.and_eq_true] at hf
        have hb1 := fits_up hf.2.2.2.1
        have hb2 := fits_up hf.2.2.2.2.1
        have hA : numsF (evFields3 ⟨seq, 3, id, other, target, member, side, type, price, qty, peak, reason, code⟩) = [(34, seq), (11, id), (37, other), (54, side % 18446744073709551616), (44, price % 18446744073709551616), (38, qty)] := rfl
        have hs' : side % 18446744073709551616 = side := by omega
        have hp' : price % 18446744073709551616 = price := by omega
        rw [hA, hs', hp'] at he hP
        have ew : add64 (add64 (add64 0 (up side 32)) (up 0 40)) (up 0 48) = 0 + side * 4294967296 + 0 * 1099511627776 + 0 * 281474976710656 := by
          rw [up_32 (by omega), up_nil, up_nil]
          unfold add64
          omega
        obtain ⟨_, w2, _, _⟩ := word_parts (m := 0) (s := side) (t := 0) (r := 0) (by omega) (by omega) (by omega) (by omega) _ ew
        refine evUnpackX_of (x := default) (k := 3) (ws := [seq, id, add64 other 0, add64 (add64 (add64 0 (up side 32)) (up 0 40)) (up 0 48), add64 price (up 0 32), qty, 0]) (fs0 := evFields3 (ev0 3)) (by rw [hP]; rfl) (by decide) rfl ?_
        rw [← he]
        show (⟨seq, 3, id, add64 other 0, 0, 0 % 4294967296, s64 (andU (down (add64 (add64 (add64 0 (up side 32)) (up 0 40)) (up 0 48)) 32) 255), s64 0, s64 (andU (add64 price (up 0 32)) 4294967295), qty, 0, s64 0, s64 0⟩ : Event) = ⟨seq, 3, id, other, 0, 0 % 4294967296, s64 side, s64 0, s64 price, qty, 0, s64 0, s64 0⟩
        rw [w2, up_nil, a0 hot, a0 (by omega), andU_m32 (by omega)]
      · split at hF
        · rename_i hk
          subst hk
          simp only [Option.some.injEq] at hF
          subst hF
          simp only [evFields4, List.all_cons, List.all_nil, Bool.and_true, Bool.and_eq_true] at hf
          have hb1 := fits_up hf.2.2.2
          have hA : numsF (evFields4 ⟨seq, 4, id, other, target, member, side, type, price, qty, peak, reason, code⟩) = [(34, seq), (11, id), (38, qty), (378, reason % 18446744073709551616)] := rfl
          have hp' : reason % 18446744073709551616 = reason := by omega
          rw [hA, hp'] at he hP
          have ew : add64 (add64 (add64 0 (up 0 32)) (up 0 40)) (up reason 48) = 0 + 0 * 4294967296 + 0 * 1099511627776 + reason * 281474976710656 := by
            rw [up_48 (by omega), up_nil, up_nil]
            unfold add64
            omega
          obtain ⟨_, _, _, w4⟩ := word_parts (m := 0) (s := 0) (t := 0) (r := reason) (by omega) (by omega) (by omega) (by omega) _ ew
          refine evUnpackX_of (x := default) (k := 4) (ws := [seq, id, add64 0 0, add64 (add64 (add64 0 (up 0 32)) (up 0 40)) (up reason 48), add64 0 (up 0 32), qty, 0]) (fs0 := evFields4 (ev0 4)) (by rw [hP]; rfl) (by decide) rfl ?_
          rw [← he]
          show (⟨seq, 4, id, 0, 0, 0 % 4294967296, s64 0, s64 0, s64 0, qty, 0, s64 (andU (down (add64 (add64 (add64 0 (up 0 32)) (up 0 40)) (up reason 48)) 48) 255), s64 0⟩ : Event) = ⟨seq, 4, id, 0, 0, 0 % 4294967296, s64 0, s64 0, s64 0, qty, 0, s64 reason, s64 0⟩
          rw [w4]
        · split at hF
          · rename_i hk
            subst hk
            simp only [Option.some.injEq] at hF
            subst hF
            simp only [evFields5, List.all_cons, List.all_nil, Bool.and_true, Bool.and_eq_true] at hf
            have hb1 := fits_up hf.2.2.1
            have hA : numsF (evFields5 ⟨seq, 5, id, other, target, member, side, type, price, qty, peak, reason, code⟩) = [(34, seq), (11, id), (44, price % 18446744073709551616), (38, qty)] := rfl
            have hp' : price % 18446744073709551616 = price := by omega
            rw [hA, hp'] at he hP
            refine evUnpackX_of (x := default) (k := 5) (ws := [seq, id, add64 0 0, add64 (add64 (add64 0 (up 0 32)) (up 0 40)) (up 0 48), add64 price (up 0 32), qty, 0]) (fs0 := evFields5 (ev0 5)) (by rw [hP]; rfl) (by decide) rfl ?_
            rw [← he]
            show (⟨seq, 5, id, 0, 0, 0 % 4294967296, s64 0, s64 0, s64 (andU (add64 price (up 0 32)) 4294967295), qty, 0, s64 0, s64 0⟩ : Event) = ⟨seq, 5, id, 0, 0, 0 % 4294967296, s64 0, s64 0, s64 price, qty, 0, s64 0, s64 0⟩
            rw [up_nil, a0 (by omega), andU_m32 (by omega)]
          · cases hF
theorem packEv_shape (e : Event) : ∃ k a0 a1 a2 a3 a4 a5 a6, (packEvF e).1 = ⟨k, [a0, a1, a2, a3, a4, a5, a6]⟩ := by
  obtain ⟨a0, a1, a2, a3, a4, a5, a6, h7⟩ := list7 (packEvF_len e)
  exact ⟨(packEvF e).1.kind, a0, a1, a2, a3, a4, a5, a6, by rw [← h7]⟩
theorem packEvF_two (e : Event) : (packEvF e).2 = toldEvE e := by
  unfold packEvF
  split
  · rename_i h; exact h.symm
  · rfl
theorem packEvF_kind {e : Event} (h : toldEvE e = 0) : 0 ≤ (packEvF e).1.kind ∧ (packEvF e).1.kind ≤ 255 := by
  obtain ⟨fs, hF⟩ : ∃ fs, evFieldsF e = some fs := by
    unfold toldEvE at h
    cases hF : evFieldsF e with
    | none => rw [hF] at h; cases h
    | some fs => exact ⟨fs, rfl⟩
  have hP : packEvF e = (evFrameF e.kind (numsF fs), 0) := by unfold packEvF; rw [if_pos h, hF]
  rw [hP]
  show 0 ≤ (64 + e.kind) % 256 ∧ (64 + e.kind) % 256 ≤ 255
  omega
end Go.Rx
/- The law bourselaw04.MessageEdges gives true. -/
namespace Go.Rx
open Go Go.RowKit Go.Lib Go.Proofs.YthpejgmkiomfhaaGreatDoor
set_option linter.unusedVariables false
set_option linter.unusedSimpArgs false
def Input.cmd (i : Input) : List Value := [.int .i64 i.ckind, .int .u64 i.id, .int .u64 i.target, .int .u32 i.member, .int .i64 i.side, .int .i64 i.type, .int .i64 i.price, .int .u64 i.qty, .int .u64 i.peak]
def atF (i : Input) (f n : Int) : Input := if f % 3 = 0 then { i with side := n } else if f % 3 = 1 then { i with type := n } else { i with price := n }
structure NewI (i : Input) : Prop where
  wf : i.Wf
  kind : i.kind = 1
  ckind : i.ckind = 1
  target : i.target = 0
  engine : i.engine = 0
def mostF (f : Int) : Int := if f % 3 = 2 then 4294967295 else 255
theorem pack_shape (i : Input) : ∃ k a0 a1 a2 a3 a4 a5 a6, (packF i).1 = ⟨k, [a0, a1, a2, a3, a4, a5, a6]⟩ := by
  obtain ⟨a0, a1, a2, a3, a4, a5, a6, h7⟩ := list7 (packF_len i)
  exact ⟨(packF i).1.kind, a0, a1, a2, a3, a4, a5, a6, by rw [← h7]⟩
theorem packF_two (i : Input) : (packF i).2 = toldE i := by
  unfold packF
  split
  · rename_i h; exact h.symm
  · rfl
end Go.Rx
