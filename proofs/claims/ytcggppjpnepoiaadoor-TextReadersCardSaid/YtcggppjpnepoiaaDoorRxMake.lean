/- The rule layer: slices made. -/
import Derived.Test.YtcggppjpnepoiaaDoorRxByte
import Derived.Laws.MakeOwn
import Derived.Laws.Pointers
import Derived.Lib.BufferMore
namespace Go.Rx
open Go Go.RowKit
set_option linter.unusedVariables false
set_option linter.unusedSimpArgs false
section
variable {P : Program} {n : Nat} {ops : Array Oper} {w0 : World} {Cs H : List Chunk} {e : Env} {K : Env → List Chunk → Prop} {rest : List Oper} {t : Nat} {ty : TypeId} {pos : String} {af : Array Edge} {x y : Operand}
/-- 'make([]T, 0, c)': a slice of the call's own, of no elements and with room. -/
theorem Seq.mkSl0 {ts el : TypeId} {size bytes c : Nat} {k0 k : IntKind} (ht : Nat.blt t n = true := by rfl) (hsl : slcOf P ts el size = true) (he : elOf P el size bytes = true)
    (hx : Look e x (.int k0 0) := by repeat (first | exact Look.here | apply Look.there (hne := rfl) | exact Look.const | apply Look.mix rfl | exact Look.arg0 | apply Look.args | exact Look.func)) (hy : Look e y (.int k (c : Int)) := by repeat (first | exact Look.here | apply Look.there (hne := rfl) | exact Look.const | apply Look.mix rfl | exact Look.arg0 | apply Look.args | exact Look.func)) (h63 : c ≤ 4611686018427387904 := by omega) (hb : bytes * c ≤ 281474976710656 := by omega)
    (kk : ∀ b, Seq P n ops w0 Cs rest (.own el size (.slice (some ⟨b, 0, none⟩) 0 c) 0 [] :: H) (upd e t (.slice (some ⟨b, 0, none⟩) 0 c)) K) :
    Seq P n ops w0 Cs (⟨some t, .makeSlice ts x y, ty, pos, af, none⟩ :: rest) H e K := by
  refine Seq.f ht (R := fun v H' => ∃ b, v = .slice (some ⟨b, 0, none⟩) 0 c ∧ H' = .own el size (.slice (some ⟨b, 0, none⟩) 0 c) 0 [] :: H) ?_ ?_
  · intro w hw d pos af g
    obtain ⟨i, z, hi2, rfl, rfl, hpos, hz, hzs⟩ := elOf_parts he
    have hr := run_make (P := P) w ts el i z (slcOf_und hsl).1 hi2 hz k0 k 0 c (Int.le_refl _) (by omega) (by
      have h : ((i.bytes * c : Nat) : Int) ≤ 281474976710656 := by omega
      rwa [Int.natCast_mul] at h) (by omega)
    simp only [Int.toNat_zero, Int.toNat_natCast] at hr
    refine ⟨.slice (some ⟨w.heap.size, 0, none⟩) 0 c, w.alloc (.cells (madeCells z.cells (c * i.size)) el), .own el i.size (.slice (some ⟨w.heap.size, 0, none⟩) 0 c) 0 [] :: H, .inl (by simp [execOp, hx.eq, hy.eq, hr]), ?_, _, rfl, rfl⟩
    have h2 := hw.alloc (.cells (madeCells z.cells (c * i.size)) el)
    refine (h2.at_ At.z (k := ?_))
    have ho := h2.own.ok _ (List.mem_cons_self ..)
    refine ⟨rfl, rfl, rfl, Nat.le_refl _, fun _ _ _ => rfl, ⟨?_, List.pairwise_singleton _ _⟩, ?_⟩
    · intro c2 hc
      simp only [List.mem_singleton] at hc
      subst hc
      refine ⟨by simp, .inr ⟨w.heap.size, 0, c, _, _, rfl, ho, Nat.zero_le _, by simp only [maxLen]; omega, ?_, by intro j _ _ h; simp at h, by simp⟩⟩
      rw [size_madeCells]
      omega
    · intro c2 hc j hj
      simp only [List.mem_singleton] at hc
      subst hc
      simp [Chunk.fp, Value.ownBlock] at hj
      exact .inl ⟨_, List.mem_singleton.2 rfl, hj.symm⟩
  · rintro v H' ⟨b, rfl, rfl⟩
    exact kk b
theorem Ev.as {op : Op} {v v' : Value} (hv : v = v') (h : Ev P w0 Cs H e op ty v) : Ev P w0 Cs H e op ty v' := hv ▸ h
theorem Ev.minN {a b : Nat} {ts : List TypeId} (hx : Look e x (.int .i64 (a : Int)) := by repeat (first | exact Look.here | apply Look.there (hne := rfl) | exact Look.const | apply Look.mix rfl | exact Look.arg0 | apply Look.args | exact Look.func)) (hy : Look e y (.int .i64 (b : Int)) := by repeat (first | exact Look.here | apply Look.there (hne := rfl) | exact Look.const | apply Look.mix rfl | exact Look.arg0 | apply Look.args | exact Look.func)) : Ev P w0 Cs H e (.call ⟨.builtin .min, #[x, y], ts.toArray⟩) ty (.int .i64 ((Min.min a b : Nat) : Int)) :=
  Ev.as (by congr 1; split <;> omega) (Ev.min (ts := ts) hx hy)
theorem Ev.maxN {a b : Nat} {ts : List TypeId} (hx : Look e x (.int .i64 (a : Int)) := by repeat (first | exact Look.here | apply Look.there (hne := rfl) | exact Look.const | apply Look.mix rfl | exact Look.arg0 | apply Look.args | exact Look.func)) (hy : Look e y (.int .i64 (b : Int)) := by repeat (first | exact Look.here | apply Look.there (hne := rfl) | exact Look.const | apply Look.mix rfl | exact Look.arg0 | apply Look.args | exact Look.func)) : Ev P w0 Cs H e (.call ⟨.builtin .max, #[x, y], ts.toArray⟩) ty (.int .i64 ((Max.max a b : Nat) : Int)) :=
  Ev.as (by congr 1; split <;> omega) (Ev.max (ts := ts) hx hy)
theorem Ev.subN {a b : Nat} {tx ty' : TypeId} (hx : Look e x (.int .i64 (a : Int)) := by repeat (first | exact Look.here | apply Look.there (hne := rfl) | exact Look.const | apply Look.mix rfl | exact Look.arg0 | apply Look.args | exact Look.func)) (hy : Look e y (.int .i64 (b : Int)) := by repeat (first | exact Look.here | apply Look.there (hne := rfl) | exact Look.const | apply Look.mix rfl | exact Look.arg0 | apply Look.args | exact Look.func)) (h : b ≤ a := by omega) (h2 : a ≤ 9223372036854775807 := by omega) : Ev P w0 Cs H e (.binOp .sub tx x y ty') ty (.int .i64 ((a - b : Nat) : Int)) :=
  Ev.as (by congr 1; omega) (Ev.sub hx hy (by omega))
/-- A slice compared with nil. -/
theorem Ev.eqNilSl {A : Option Addr} {m c : Nat} {tx el ty' : TypeId} (ht : P.underlying tx = some (.slice el)) (hx : Look e x (.slice A m c) := by repeat (first | exact Look.here | apply Look.there (hne := rfl) | exact Look.const | apply Look.mix rfl | exact Look.arg0 | apply Look.args | exact Look.func)) : Ev P w0 Cs H e (.binOp .eql tx x (.const (.slice none 0 0)) ty') ty (.bool A.isNone) := by
  intro w _ d pos af g
  replace hx := hx.eq
  have e1 : ev e (.const (.slice none 0 0)) = .slice none 0 0 := rfl
  have e2 : eqGuard .eql tx x (.const (.slice none 0 0)) (.slice A m c) (.slice none 0 0) = pure () := rfl
  have e3 : (binOp .eql tx (.slice A m c) (.slice none 0 0)).run P w = .ok (.bool A.isNone) w := by
    cases A with
    | none => exact Lib.run_eql_slice_nil_nil w m c ht
    | some a => exact Lib.run_eql_slice_some_nil w a m c ht
  simp [execOp, hx, e1, e2, e3]
/-- A pointer compared with nil. -/
theorem Ev.eqNilP {p : Option Addr} {tx ty' : TypeId} (ht : P.underlying tx = some (.pointer (P.pointee tx))) (hx : Look e x (.pointer p) := by repeat (first | exact Look.here | apply Look.there (hne := rfl) | exact Look.const | apply Look.mix rfl | exact Look.arg0 | apply Look.args | exact Look.func)) : Ev P w0 Cs H e (.binOp .eql tx x (.const (.pointer none)) ty') ty (.bool p.isNone) := by
  intro w _ d pos af g
  replace hx := hx.eq
  have e1 : ev e (.const (.pointer none)) = .pointer none := rfl
  have e2 : eqGuard .eql tx x (.const (.pointer none)) (.pointer p) (.pointer none) = pure () := rfl
  have e3 := run_eql_pointer_nil w tx p ht
  simp [execOp, hx, e1, e2, e3]
theorem Ev.neNilP {p : Option Addr} {tx ty' : TypeId} (ht : P.underlying tx = some (.pointer (P.pointee tx))) (hx : Look e x (.pointer p) := by repeat (first | exact Look.here | apply Look.there (hne := rfl) | exact Look.const | apply Look.mix rfl | exact Look.arg0 | apply Look.args | exact Look.func)) : Ev P w0 Cs H e (.binOp .neq tx x (.const (.pointer none)) ty') ty (.bool (!p.isNone)) := by
  intro w _ d pos af g
  replace hx := hx.eq
  have e1 : ev e (.const (.pointer none)) = .pointer none := rfl
  have e2 : eqGuard .neq tx x (.const (.pointer none)) (.pointer p) (.pointer none) = pure () := rfl
  have e3 := run_neq_pointer_nil w tx p ht
  simp [execOp, hx, e1, e2, e3]
end
/-- A piece let go: a slice of nothing in its place. -/
theorem Upd.toNil {w0 w : World} {Cs H : List Chunk} {i : Nat} {c : Chunk} (h : Upd w0 w Cs H) (hi : At H i c) (e : TypeId) (size : Nat) : Upd w0 w Cs (H.set i (.own e size (.slice none 0 0) 0 [])) := by
  refine h.at_ hi ?_
  refine ⟨rfl, rfl, rfl, Nat.le_refl _, fun _ _ _ => rfl, ⟨?_, List.pairwise_singleton _ _⟩, ?_⟩
  · intro c hc
    simp only [List.mem_singleton] at hc
    subst hc
    exact OwnR.nil w e size
  · intro c hc j hj
    simp only [List.mem_singleton] at hc
    subst hc
    simp [Chunk.fp, Value.ownBlock] at hj
theorem Part.at {c : Chunk} {H' H : List Chunk} {i : Nat} (h : At H i c) (k : Part H' (H.eraseIdx i)) : Part (c :: H') H := by
  obtain ⟨G, hG⟩ := k
  exact ⟨G, (hG.cons c).trans h.perm⟩
end Go.Rx
