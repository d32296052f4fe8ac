/- The rule layer: literals of many parts: each part is laid in by one pass over the list. -/
import Derived.Test.YtcggppjpnepoiaaDoorRxNf
namespace Go.Rx
open Go Go.RowKit
set_option linter.unusedVariables false
set_option linter.unusedSimpArgs false
def splice : List Value → Nat → List Value → List Value
  | c :: cs, 0, v :: vs => v :: splice cs 0 vs
  | c :: cs, n + 1, vs => c :: splice cs n vs
  | cs, _, _ => cs
theorem splice_eq (cs vs : List Value) (off : Nat) (h : off + vs.length ≤ cs.length) : splice cs off vs = cs.take off ++ vs ++ cs.drop (off + vs.length) := by
  induction cs generalizing off vs with
  | nil =>
    simp only [List.length_nil] at h
    have h1 : vs = [] := List.eq_nil_of_length_eq_zero (by omega)
    subst h1
    simp [splice]
  | cons c cs ih =>
    cases off with
    | zero =>
      cases vs with
      | nil => simp [splice]
      | cons v vs =>
        simp only [List.length_cons] at h
        simp only [splice, List.take_zero, List.nil_append, List.cons_append, List.length_cons]
        rw [ih vs 0 (by omega)]
        simp
    | succ n =>
      simp only [List.length_cons] at h
      simp only [splice, List.take_succ_cons, List.cons_append]
      rw [ih vs n (by omega)]
      have : n + 1 + vs.length = n + vs.length + 1 := by omega
      rw [this, List.drop_succ_cons]
theorem splice_length (cs vs : List Value) (off : Nat) (h : off + vs.length ≤ cs.length) : (splice cs off vs).length = cs.length := by
  rw [splice_eq cs vs off h]
  simp
  omega
def fillS (place : Nat → Option (Nat × Nat)) (n : Nat) (cs : List Value) : List (Nat × Value) → Option (List Value)
  | [] => some cs
  | (i, v) :: r =>
    match place i with
    | none => none
    | some (off, size) => match Nat.beq (cellsL v).length size, Nat.ble (off + (cellsL v).length) n with
      | true, true => fillS place n (splice cs off (cellsL v)) r
      | _, _ => none
theorem fillS_eq (place : Nat → Option (Nat × Nat)) (n : Nat) (r : List (Nat × Value)) (cs ds : List Value) (hn : cs.length = n) (h : fillS place n cs r = some ds) : fillL place cs r = some ds := by
  induction r generalizing cs with
  | nil => exact h
  | cons p r ih =>
    obtain ⟨i, v⟩ := p
    unfold fillS at h
    unfold fillL
    cases hp : place i with
    | none => rw [hp] at h; cases h
    | some q =>
      obtain ⟨off, size⟩ := q
      rw [hp] at h
      dsimp only at h ⊢
      rw [hn]
      cases h1 : Nat.beq (cellsL v).length size with
      | false => rw [h1] at h; simp at h
      | true =>
        cases h2 : Nat.ble (off + (cellsL v).length) n with
        | false => rw [h1, h2] at h; simp at h
        | true =>
          rw [h1, h2] at h
          dsimp only at h ⊢
          have hle : off + (cellsL v).length ≤ cs.length := by
            have := Nat.le_of_ble_eq_true h2
            omega
          rw [← splice_eq cs (cellsL v) off hle]
          exact ih _ (by rw [splice_length cs _ off hle]; exact hn) h
section
variable {P : Program} {n : Nat} {ops : Array Oper} {w0 : World} {Cs H : List Chunk} {e : Env} {K : Env → List Chunk → Prop} {rest : List Oper}
  {t : Nat} {ty : TypeId} {pos : String} {af : Array Edge} {x y : Operand}
theorem Ev.buildS {t : TypeId} {zs : List Value} (cs : List Value) {pl : List (Nat × Nat)} {l : List (Nat × Operand)} {r : List (Nat × Value)} (hpl : fieldPlaces P t = some pl) (hz : zeroOf P t = some (.agg zs.toArray))
    (hl : Looks e l r := by repeat (first | exact Look.here | apply Look.there (hne := rfl) | exact Look.const | apply Look.mix rfl | exact Look.arg0 | apply Look.args | exact Look.func | exact Looks.nil | apply Looks.cons)) (hcs : fillS (pl[·]?) zs.length zs r = some cs := by rfl) : Ev P w0 Cs H e (.build t l.toArray) ty (.agg cs.toArray) :=
  Ev.build hpl hz (by rw [hl.eq]; exact fillS_eq _ _ _ _ _ rfl hcs)
theorem Seq.buildSlS {ts el : TypeId} {size len : Nat} {z : Value} {zs : List Value} (cs : List Value) {l : List (Nat × Operand)} {r : List (Nat × Value)} (ht : Nat.blt t n = true := by rfl) (hsl : slcOf P ts el size = true) (hz : zeroOf P el = some z) (hzs : cellsL z = zs := by rfl) (hlen : Nat.ble (len * size) 16777216 = true := by rfl)
    (hl : Looks e l r := by repeat (first | exact Look.here | apply Look.there (hne := rfl) | exact Look.const | apply Look.mix rfl | exact Look.arg0 | apply Look.args | exact Look.func | exact Looks.nil | apply Looks.cons))
    (hcs : fillS (fun i => some (i * size, size)) (len * size) ((List.range (len * size)).map fun q => zs[q % zs.length]!) r = some cs := by rfl)
    (k : ∀ b, Seq P n ops w0 Cs rest (.box b el cs :: H) (upd e t (.slice (some ⟨b, 0, none⟩) len len)) K) :
    Seq P n ops w0 Cs (⟨some t, .buildSlice ts len l.toArray, ty, pos, af, none⟩ :: rest) H e K :=
  Seq.buildSl ht hsl hz hzs hlen (by rw [hl.eq]; exact fillS_eq _ _ _ _ _ (by simp) hcs) k
end
end Go.Rx
