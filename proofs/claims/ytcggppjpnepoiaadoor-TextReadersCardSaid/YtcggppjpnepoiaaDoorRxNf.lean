/- The rule layer: the rules of structs, slice literals and stores once more, over values that are looked up first, so that what is stored stays short. -/
import Derived.Test.YtcggppjpnepoiaaDoorRxMap
namespace Go.Rx
open Go Go.RowKit
set_option linter.unusedVariables false
set_option linter.unusedSimpArgs false
/-- The operands of a literal, looked up. -/
inductive Looks (e : Env) : List (Nat × Operand) → List (Nat × Value) → Prop
  | nil : Looks e [] []
  | cons {i : Nat} {x : Operand} {v : Value} {l : List (Nat × Operand)} {r : List (Nat × Value)} (h : Look e x v) (t : Looks e l r) : Looks e ((i, x) :: l) ((i, v) :: r)
theorem Looks.eq {e : Env} {l : List (Nat × Operand)} {r : List (Nat × Value)} (h : Looks e l r) : l.map (fun p => (p.1, ev e p.2)) = r := by
  induction h with
  | nil => rfl
  | cons h t ih => rw [List.map_cons, ih, h.eq]
section
variable {P : Program} {n : Nat} {ops : Array Oper} {w0 : World} {Cs H : List Chunk} {e : Env} {K : Env → List Chunk → Prop} {rest : List Oper}
  {t : Nat} {ty : TypeId} {pos : String} {af : Array Edge} {x y : Operand}
theorem Ev.buildN {t : TypeId} {zs : List Value} (cs : List Value) {pl : List (Nat × Nat)} {l : List (Nat × Operand)} {r : List (Nat × Value)} (hpl : fieldPlaces P t = some pl) (hz : zeroOf P t = some (.agg zs.toArray))
    (hl : Looks e l r := by repeat (first | exact Look.here | apply Look.there (hne := rfl) | exact Look.const | apply Look.mix rfl | exact Look.arg0 | apply Look.args | exact Look.func | exact Looks.nil | apply Looks.cons)) (hcs : fillL (pl[·]?) zs r = some cs := by rfl) : Ev P w0 Cs H e (.build t l.toArray) ty (.agg cs.toArray) :=
  Ev.build hpl hz (by rw [hl.eq]; exact hcs)
theorem Ev.buildArrN {t el : TypeId} {len sz : Nat} {zs : List Value} (cs : List Value) {l : List (Nat × Operand)} {r : List (Nat × Value)} (hs : arrOf P t len el sz = true) (hz : zeroOf P t = some (.agg zs.toArray))
    (hl : Looks e l r := by repeat (first | exact Look.here | apply Look.there (hne := rfl) | exact Look.const | apply Look.mix rfl | exact Look.arg0 | apply Look.args | exact Look.func | exact Looks.nil | apply Looks.cons)) (hcs : fillL (fun i => some (i * sz, sz)) zs r = some cs := by rfl) : Ev P w0 Cs H e (.build t l.toArray) ty (.agg cs.toArray) :=
  Ev.buildArr hs hz (by rw [hl.eq]; exact hcs)
theorem Seq.buildSlN {ts el : TypeId} {size len : Nat} {z : Value} {zs : List Value} (cs : List Value) {l : List (Nat × Operand)} {r : List (Nat × Value)} (ht : Nat.blt t n = true := by rfl) (hsl : slcOf P ts el size = true) (hz : zeroOf P el = some z) (hzs : cellsL z = zs := by rfl) (hlen : Nat.ble (len * size) 16777216 = true := by rfl)
    (hl : Looks e l r := by repeat (first | exact Look.here | apply Look.there (hne := rfl) | exact Look.const | apply Look.mix rfl | exact Look.arg0 | apply Look.args | exact Look.func | exact Looks.nil | apply Looks.cons))
    (hcs : fillL (fun i => some (i * size, size)) ((List.range (len * size)).map fun q => zs[q % zs.length]!) r = some cs := by rfl)
    (k : ∀ b, Seq P n ops w0 Cs rest (.box b el cs :: H) (upd e t (.slice (some ⟨b, 0, none⟩) len len)) K) :
    Seq P n ops w0 Cs (⟨some t, .buildSlice ts len l.toArray, ty, pos, af, none⟩ :: rest) H e K :=
  Seq.buildSl ht hsl hz hzs hlen (by rw [hl.eq]; exact hcs) k
theorem Seq.storeN {el tb : TypeId} {b off i m : Nat} {cs vs : List Value} {v : Value} (cs' : List Value) (hsz : szOf P el m = true) (hx : Look e x (.pointer (some ⟨b, off, none⟩)) := by repeat (first | exact Look.here | apply Look.there (hne := rfl) | exact Look.const | apply Look.mix rfl | exact Look.arg0 | apply Look.args | exact Look.func)) (hy : Look e y v := by repeat (first | exact Look.here | apply Look.there (hne := rfl) | exact Look.const | apply Look.mix rfl | exact Look.arg0 | apply Look.args | exact Look.func)) (hvs : cellsL v = vs := by rfl) (hm : vs.length = m := by rfl)
    (h1 : (vs.all fun u => u.oneCell') = true := by rfl) (hH : At H i (.box b tb cs) := by repeat (first | exact At.z | apply At.s)) (hfit : Nat.ble (off + vs.length) cs.length = true := by rfl) (hcs : cs.take off ++ vs ++ cs.drop (off + vs.length) = cs' := by rfl)
    (k : Seq P n ops w0 Cs rest (H.set i (.box b tb cs')) e K) :
    Seq P n ops w0 Cs (⟨none, .store el x y, ty, pos, af, none⟩ :: rest) H e K :=
  Seq.storeTo hsz hx hy hvs hm h1 hH (by simpa using hfit) hcs k
theorem Ev.ldBPN {t tb : TypeId} {bk off i n : Nat} {cs : List Value} (ds : List Value) (ht : isAg P t n = true) (hx : Look e x (.pointer (some ⟨bk, off, none⟩)) := by repeat (first | exact Look.here | apply Look.there (hne := rfl) | exact Look.const | apply Look.mix rfl | exact Look.arg0 | apply Look.args | exact Look.func)) (hH : At H i (.box bk tb cs) := by repeat (first | exact At.z | apply At.s)) (hn : (cs.drop off).take n = ds := by rfl) (hl : ds.length = n := by rfl) : Ev P w0 Cs H e (.load t x) ty (.agg ds.toArray) := by
  subst hn
  exact Ev.ldBP ht hx hH hl
end
end Go.Rx
