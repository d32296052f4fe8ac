/- The rule layer of these proofs. -/
import Derived.Test.YtonoamdonmbkpaaRxL1
import Derived.Laws.Externs
import Derived.Lib.Mul64
import Derived.HandedShaped
set_option linter.unusedVariables false
set_option linter.unusedSimpArgs false
/- The rule layer: words of 64 bits as natural numbers; sums with a carry, differences with a borrow. -/
namespace Go.Rx
open Go Go.RowKit
set_option linter.unusedVariables false
set_option linter.unusedSimpArgs false
section
variable {P : Program} {w0 : World} {Cs H : List Chunk} {e : Env} {ty tx ty' : TypeId} {x y z : Operand} {a b c : Nat}
theorem Ev.addNU (hx : Look e x (.int .u64 (a : Int)) := by repeat (first | exact Look.here | apply Look.there (hne := rfl) | exact Look.const | apply Look.mix rfl | exact Look.arg0 | apply Look.args | exact Look.func)) (hy : Look e y (.int .u64 (b : Int)) := by repeat (first | exact Look.here | apply Look.there (hne := rfl) | exact Look.const | apply Look.mix rfl | exact Look.arg0 | apply Look.args | exact Look.func)) (h : a + b < 18446744073709551616 := by omega) : Ev P w0 Cs H e (.binOp .add tx x y ty') ty (.int .u64 ((a + b : Nat) : Int)) :=
  Ev.as (by congr 1) (Ev.addU' hx hy (by omega))
theorem Ev.addNM (hx : Look e x (.int .u64 (a : Int)) := by repeat (first | exact Look.here | apply Look.there (hne := rfl) | exact Look.const | apply Look.mix rfl | exact Look.arg0 | apply Look.args | exact Look.func)) (hy : Look e y (.int .u64 (b : Int)) := by repeat (first | exact Look.here | apply Look.there (hne := rfl) | exact Look.const | apply Look.mix rfl | exact Look.arg0 | apply Look.args | exact Look.func)) : Ev P w0 Cs H e (.binOp .add tx x y ty') ty (.int .u64 (((a + b) % 18446744073709551616 : Nat) : Int)) :=
  Ev.as (by congr 1) (Ev.addU hx hy)
theorem Ev.subNU (hx : Look e x (.int .u64 (a : Int)) := by repeat (first | exact Look.here | apply Look.there (hne := rfl) | exact Look.const | apply Look.mix rfl | exact Look.arg0 | apply Look.args | exact Look.func)) (hy : Look e y (.int .u64 (b : Int)) := by repeat (first | exact Look.here | apply Look.there (hne := rfl) | exact Look.const | apply Look.mix rfl | exact Look.arg0 | apply Look.args | exact Look.func)) (h : b ≤ a ∧ a < 18446744073709551616 := by omega) : Ev P w0 Cs H e (.binOp .sub tx x y ty') ty (.int .u64 ((a - b : Nat) : Int)) :=
  Ev.as (by congr 1 <;> omega) (Ev.subU' hx hy (by omega))
theorem Ev.mulNU (hx : Look e x (.int .u64 (a : Int)) := by repeat (first | exact Look.here | apply Look.there (hne := rfl) | exact Look.const | apply Look.mix rfl | exact Look.arg0 | apply Look.args | exact Look.func)) (hy : Look e y (.int .u64 (b : Int)) := by repeat (first | exact Look.here | apply Look.there (hne := rfl) | exact Look.const | apply Look.mix rfl | exact Look.arg0 | apply Look.args | exact Look.func)) (h : a * b < 18446744073709551616 := by omega) : Ev P w0 Cs H e (.binOp .mul tx x y ty') ty (.int .u64 ((a * b : Nat) : Int)) :=
  Ev.as (by congr 1 <;> rw [wrap_u64 _ (by rw [← Int.natCast_mul]; omega), Int.natCast_mul]) (Ev.mulW (k := .u64) hx hy)
theorem Ev.mulNM (hx : Look e x (.int .u64 (a : Int)) := by repeat (first | exact Look.here | apply Look.there (hne := rfl) | exact Look.const | apply Look.mix rfl | exact Look.arg0 | apply Look.args | exact Look.func)) (hy : Look e y (.int .u64 (b : Int)) := by repeat (first | exact Look.here | apply Look.there (hne := rfl) | exact Look.const | apply Look.mix rfl | exact Look.arg0 | apply Look.args | exact Look.func)) : Ev P w0 Cs H e (.binOp .mul tx x y ty') ty (.int .u64 ((a * b % 18446744073709551616 : Nat) : Int)) :=
  Ev.as (by congr 1) (Ev.mulW (k := .u64) hx hy)
theorem Ev.quoNU (hx : Look e x (.int .u64 (a : Int)) := by repeat (first | exact Look.here | apply Look.there (hne := rfl) | exact Look.const | apply Look.mix rfl | exact Look.arg0 | apply Look.args | exact Look.func)) (hy : Look e y (.int .u64 (b : Int)) := by repeat (first | exact Look.here | apply Look.there (hne := rfl) | exact Look.const | apply Look.mix rfl | exact Look.arg0 | apply Look.args | exact Look.func)) (ha : a < 18446744073709551616 := by omega) (hb : 0 < b := by omega) : Ev P w0 Cs H e (.binOp .quo tx x y ty') ty (.int .u64 ((a / b : Nat) : Int)) :=
  Ev.as (by congr 1) (Ev.quoU hx hy (by omega) (by omega))
theorem Ev.remNU (hx : Look e x (.int .u64 (a : Int)) := by repeat (first | exact Look.here | apply Look.there (hne := rfl) | exact Look.const | apply Look.mix rfl | exact Look.arg0 | apply Look.args | exact Look.func)) (hy : Look e y (.int .u64 (b : Int)) := by repeat (first | exact Look.here | apply Look.there (hne := rfl) | exact Look.const | apply Look.mix rfl | exact Look.arg0 | apply Look.args | exact Look.func)) (hb : 0 < b := by omega) : Ev P w0 Cs H e (.binOp .rem tx x y ty') ty (.int .u64 ((a % b : Nat) : Int)) :=
  Ev.as (by congr 1) (Ev.rem hx hy (by omega) (by omega))
theorem bits_low {n m : Nat} (k : Nat) (hn : n < 18446744073709551616) (hm : m = 2 ^ k - 1) (hk : m < 18446744073709551616) : (BitVec.ofInt IntKind.u64.bits (n : Int) &&& BitVec.ofInt IntKind.u64.bits (m : Int)).toNat = n % 2 ^ k := by
  have e1 : ∀ q : Nat, q < 18446744073709551616 → (BitVec.ofInt IntKind.u64.bits (q : Int)).toNat = q := fun q hq => by
    rw [BitVec.toNat_ofInt]
    have : ((2 ^ IntKind.u64.bits : Nat) : Int) = 18446744073709551616 := rfl
    rw [this, Int.emod_eq_of_lt (by omega) (by omega)]
    omega
  rw [BitVec.toNat_and, e1 n hn, e1 m hk, hm, Nat.and_two_pow_sub_one_eq_mod]
theorem Ev.lowNU {m : Nat} (k r : Nat) (hx : Look e x (.int .u64 (a : Int)) := by repeat (first | exact Look.here | apply Look.there (hne := rfl) | exact Look.const | apply Look.mix rfl | exact Look.arg0 | apply Look.args | exact Look.func)) (hy : Look e y (.int .u64 (m : Int)) := by repeat (first | exact Look.here | apply Look.there (hne := rfl) | exact Look.const | apply Look.mix rfl | exact Look.arg0 | apply Look.args | exact Look.func)) (hm : m = 2 ^ k - 1 := by rfl) (hr : 2 ^ k = r := by rfl) (ha : a < 18446744073709551616 := by omega) (hmk : m < 18446744073709551616 := by decide) :
    Ev P w0 Cs H e (.binOp .and tx x y ty') ty (.int .u64 ((a % r : Nat) : Int)) := by
  refine Ev.as ?_ (Ev.bits (k := .u64) (· &&& ·) (.inl ⟨rfl, rfl⟩) hx hy)
  subst hr
  have h := bits_low k ha hm hmk
  have h2 : a % 2 ^ k ≤ a := Nat.mod_le _ _
  show Value.int .u64 (IntKind.u64.wrap (((BitVec.ofInt IntKind.u64.bits (a : Int) &&& BitVec.ofInt IntKind.u64.bits (m : Int)).toNat : Nat) : Int)) = _
  rw [h, wrap_u64 _ (by omega)]
theorem Ev.shrNU {k' : IntKind} {s : Int} (r : Nat) (hx : Look e x (.int .u64 (a : Int)) := by repeat (first | exact Look.here | apply Look.there (hne := rfl) | exact Look.const | apply Look.mix rfl | exact Look.arg0 | apply Look.args | exact Look.func)) (hy : Look e y (.int k' s) := by repeat (first | exact Look.here | apply Look.there (hne := rfl) | exact Look.const | apply Look.mix rfl | exact Look.arg0 | apply Look.args | exact Look.func)) (hs : 0 ≤ s := by omega) (hr : ((2 : Int) ^ (Min.min s.toNat IntKind.u64.bits)) = (r : Int) := by rfl) :
    Ev P w0 Cs H e (.binOp .shr tx x y ty') ty (.int .u64 ((a / r : Nat) : Int)) := by
  refine Ev.as ?_ (Ev.shrW hx hy hs)
  rw [hr]
  congr 1
theorem Ev.ext3 {f : FuncId} {fn : Func} {en : Array Value → Sem Value} {ats : Array TypeId} {vx vy vz v : Value} (hf : P.funcs[f]? = some fn) (hn : (fn.name == "runtime.NumGoroutine") = false) (hb : fn.body.isNone = true) (hfn : Extern.findNext fn = none) (he : Extern.find fn = some en)
    (hx : Look e x vx := by repeat (first | exact Look.here | apply Look.there (hne := rfl) | exact Look.const | apply Look.mix rfl | exact Look.arg0 | apply Look.args | exact Look.func)) (hy : Look e y vy := by repeat (first | exact Look.here | apply Look.there (hne := rfl) | exact Look.const | apply Look.mix rfl | exact Look.arg0 | apply Look.args | exact Look.func)) (hz : Look e z vz := by repeat (first | exact Look.here | apply Look.there (hne := rfl) | exact Look.const | apply Look.mix rfl | exact Look.arg0 | apply Look.args | exact Look.func)) (hr : ∀ w : World, (en #[vx, vy, vz]).run P w = .ok v w) : Ev P w0 Cs H e (.call ⟨.value (.func f), #[x, y, z], ats⟩) ty v := by
  intro w hw d pos af g2
  have hr2 := run_callFunc_extern hf hn hb hfn he #[vx, vy, vz] w
  rw [hr w] at hr2
  have hfe : ev e (.func f) = .func (.func f) #[] #[] := rfl
  simp [execOp, resolve, Deferred.ofValue, invoke, hx.eq, hy.eq, hz.eq, hfe, hr2, Result.andThen]
def sub64E : Array Value → Sem Value := fun args => do
  let (x, y, b) ← Extern.MathBitsCarry.three "Sub64" args
  pure (Extern.MathBitsCarry.pair ((x + Extern.MathBitsCarry.m64 - y - b) % Extern.MathBitsCarry.m64) (if x < y + b then 1 else 0))
theorem run_sub64E (x y b : Nat) (hb : b ≤ 1) (w : World) :
    (sub64E #[.int .u64 x, .int .u64 y, .int .u64 b]).run P w = .ok (.tuple #[.int .u64 (((x + 18446744073709551616 - y - b) % 18446744073709551616 : Nat) : Int), .int .u64 ((if x < y + b then 1 else 0 : Nat) : Int)]) w := by
  have : b = 0 ∨ b = 1 := by omega
  rcases this with rfl | rfl <;> rfl
theorem run_add64N (x y c : Nat) (hc : c ≤ 1) (w : World) :
    (add64Entry #[.int .u64 x, .int .u64 y, .int .u64 c]).run P w = .ok (.tuple #[.int .u64 (((x + y + c) % 18446744073709551616 : Nat) : Int), .int .u64 (((x + y + c) / 18446744073709551616 : Nat) : Int)]) w := by
  rw [run_add64 x y c (by omega) (by omega) (by omega) (by omega)]
  congr 4
theorem Ev.add64 {f : FuncId} {fn : Func} {ats : Array TypeId} (hf : P.funcs[f]? = some fn) (hn : (fn.name == "runtime.NumGoroutine") = false) (hb : fn.body.isNone = true) (hfn : Extern.findNext fn = none) (he : Extern.find fn = some add64Entry)
    (hx : Look e x (.int .u64 (a : Int)) := by repeat (first | exact Look.here | apply Look.there (hne := rfl) | exact Look.const | apply Look.mix rfl | exact Look.arg0 | apply Look.args | exact Look.func)) (hy : Look e y (.int .u64 (b : Int)) := by repeat (first | exact Look.here | apply Look.there (hne := rfl) | exact Look.const | apply Look.mix rfl | exact Look.arg0 | apply Look.args | exact Look.func)) (hz : Look e z (.int .u64 (c : Int)) := by repeat (first | exact Look.here | apply Look.there (hne := rfl) | exact Look.const | apply Look.mix rfl | exact Look.arg0 | apply Look.args | exact Look.func)) (hc : c ≤ 1 := by omega) :
    Ev P w0 Cs H e (.call ⟨.value (.func f), #[x, y, z], ats⟩) ty (.tuple #[.int .u64 (((a + b + c) % 18446744073709551616 : Nat) : Int), .int .u64 (((a + b + c) / 18446744073709551616 : Nat) : Int)]) :=
  Ev.ext3 hf hn hb hfn he hx hy hz (run_add64N a b c hc)
theorem Ev.sub64 {f : FuncId} {fn : Func} {ats : Array TypeId} (hf : P.funcs[f]? = some fn) (hn : (fn.name == "runtime.NumGoroutine") = false) (hb : fn.body.isNone = true) (hfn : Extern.findNext fn = none) (he : Extern.find fn = some sub64E)
    (hx : Look e x (.int .u64 (a : Int)) := by repeat (first | exact Look.here | apply Look.there (hne := rfl) | exact Look.const | apply Look.mix rfl | exact Look.arg0 | apply Look.args | exact Look.func)) (hy : Look e y (.int .u64 (b : Int)) := by repeat (first | exact Look.here | apply Look.there (hne := rfl) | exact Look.const | apply Look.mix rfl | exact Look.arg0 | apply Look.args | exact Look.func)) (hz : Look e z (.int .u64 (c : Int)) := by repeat (first | exact Look.here | apply Look.there (hne := rfl) | exact Look.const | apply Look.mix rfl | exact Look.arg0 | apply Look.args | exact Look.func)) (hc : c ≤ 1 := by omega) :
    Ev P w0 Cs H e (.call ⟨.value (.func f), #[x, y, z], ats⟩) ty (.tuple #[.int .u64 (((a + 18446744073709551616 - b - c) % 18446744073709551616 : Nat) : Int), .int .u64 ((if a < b + c then 1 else 0 : Nat) : Int)]) :=
  Ev.ext3 hf hn hb hfn he hx hy hz (run_sub64E a b c hc)
end
end Go.Rx
/- The whole rule layer. -/
/- From the reading of a call's arguments: rows whose elements hold slices; a claim's first world with its shape. -/
namespace Go.Rx
open Go Go.RowKit
set_option linter.unusedVariables false
section
variable {H : Type} {enc : TypeId × Value → H} {P : Program} {w : World} {base : Nat} {held : Bool}
theorem weights_in_all {e : TypeId} {n : Nat} : ∀ {ds : List (DataW H)} {d : DataW H}, d ∈ ds → n ∈ d.weights P e → n ∈ DataW.weightsAll P e ds
  | x :: r, d, hd, hn => by
    simp only [DataW.weightsAll, List.mem_append]
    rcases List.mem_cons.1 hd with rfl | hd
    · exact .inl hn
    · exact .inr (weights_in_all hd hn)
theorem sum_range_le {β : Type} (f : Nat → Nat) (g : β → Nat) : ∀ (l : List β) (k : Nat), (∀ i (h : i < l.length), f (k + i) ≤ g l[i]) → ((List.range' k l.length).map f).sum ≤ (l.map g).sum
  | [], k, h => by simp
  | b :: l, k, h => by
    have h0 := h 0 (by simp)
    have ih := sum_range_le f g l (k + 1) (fun i hi => by
      have := h (i + 1) (by simpa using hi)
      simpa [Nat.add_assoc, Nat.add_comm 1] using this)
    simp only [List.length_cons, List.range'_succ, List.map_cons, List.sum_cons, Nat.add_zero, List.getElem_cons_zero] at h0 ih ⊢
    omega
theorem open_rowsW {α : Type} [Inhabited α] {en : α → List Value} {k : Nat} {t e : TypeId} {fuel : Nat} {cs : List Value} {x : DataW H × List MemPlace} (Q : α → Prop) (μ : α → Nat) (β : DataW H → Nat) (ht : P.underlying t = some (.slice e)) (hk : P.cellsOf e = k) (hpos : 0 < P.bytesOf e)
    (hQ : ∀ fuel row y, DataW.trod enc P w base (fun _ => true) held fuel e row = some y → Light P e y.1 → row.length = k → ∃ x : α, en x = row ∧ Q x ∧ μ x ≤ β y.1)
    (h : DataW.trod enc P w base (fun _ => true) held fuel t cs = some x) (hl : Light P t x.1) :
    ∃ (A : Option Addr) (c : Nat) (xs : List α), cs = [.slice A xs.length c] ∧ RSl en k w [] (.slice A xs.length c) xs ∧ xs.length * P.bytesOf e ≤ reachBytes ∧ (∀ x ∈ xs, Q x) ∧ ∀ N, (∀ elems spare, x.1 = .slice elems spare → (elems.map β).sum ≤ N) → (xs.map μ).sum ≤ N := by
  rcases DataW.trod_slice ht h with ⟨rfl, rfl⟩ | ⟨a, len, cap, elems, rest, n, rfl, rfl, rfl, hb, hlc, hcm, hel, hget, hsp, _⟩
  · exact ⟨none, 0, [], rfl, ⟨⟨none, 0, rfl, Nat.le_refl _, fun _ => rfl⟩, by simp, by simp, fun i hi => by simp at hi⟩, by simp, by simp, fun N _ => by simp⟩
  · have hw := hl ((elems.map (·.1)).length + (rest.map (·.1)).length |> (· * P.bytesOf e)) (by simp [DataW.weights, ht])
    have hrow : ∀ i (hi : i < elems.length), ∃ x : α, (en x).length = k ∧ Q x ∧ μ x ≤ β (elems[i]).1 ∧ ∀ j u, (en x)[j]? = some u → w.cell? ((a.add (i * k)).add j) = some u := by
      intro i h2
      have h1 := hget i (by omega)
      rw [List.getElem?_eq_getElem h2, Option.bind_eq_some_iff] at h1
      obtain ⟨row, hr1, hr2⟩ := h1
      rw [hk] at hr1
      have hli : Light P e elems[i].1 := fun m hm => hl m (by
        simp only [DataW.weights, ht]
        refine List.mem_cons_of_mem _ (List.mem_append.2 (.inl ?_))
        exact weights_in_all (List.mem_map.2 ⟨elems[i], List.getElem_mem _, rfl⟩) hm)
      obtain ⟨g1, g2⟩ := cells?_get hr1
      obtain ⟨x, rfl, hx, hm⟩ := hQ n row _ hr2 hli g1
      exact ⟨x, g1, hx, hm, g2⟩
    classical
    let f : Nat → α := fun i => if h : i < elems.length then Classical.choose (hrow i h) else default
    have hf : ∀ i (h : i < elems.length), f i = Classical.choose (hrow i h) := by
      intro i h
      simp only [f, dif_pos h]
    refine ⟨some a, cap, (List.range len).map f, by simp, ⟨⟨some a, cap, by simp, by simpa using hlc, by simp⟩, ?_, ?_, ?_⟩, ?_, ?_, ?_⟩
    · simp at hw ⊢
      have : len * 1 ≤ reachBytes := Nat.le_trans (Nat.mul_le_mul (by omega : len ≤ elems.length + rest.length) hpos) hw
      simp only [reachBytes] at this
      omega
    · intro x hx
      obtain ⟨i, hi, rfl⟩ := List.mem_map.1 hx
      have hi' : i < elems.length := by have : i < len := by simpa using hi
                                        omega
      rw [hf i hi']
      exact (Classical.choose_spec (hrow i hi')).1
    · intro i hi j u hu
      have hi' : i < elems.length := by have : i < len := by simpa using hi
                                        omega
      have e1 : ((List.range len).map f)[i]! = f i := by
        rw [getElem!_pos _ i hi]
        simp
      rw [e1, hf i hi'] at hu
      have := (Classical.choose_spec (hrow i hi')).2.2.2 j u hu
      rw [Addr.add_add] at this
      exact ⟨by simpa [sbase] using this, by simp⟩
    · simp at hw ⊢
      refine Nat.le_trans (Nat.mul_le_mul_right _ ?_) hw
      omega
    · intro x hx
      obtain ⟨i, hi, rfl⟩ := List.mem_map.1 hx
      have hi' : i < elems.length := by have : i < len := by simpa using hi
                                        omega
      rw [hf i hi']
      exact (Classical.choose_spec (hrow i hi')).2.1
    · intro N hN
      refine Nat.le_trans ?_ (hN _ _ rfl)
      have h3 := sum_range_le (fun i => μ (f i)) (fun d : DataW H => β d) (elems.map (·.1)) 0 (fun i hi => by
        have hi2 : i < elems.length := by simpa using hi
        simp only [Nat.zero_add, List.getElem_map]
        rw [hf i hi2]
        exact (Classical.choose_spec (hrow i hi2)).2.2.1)
      have hl2 : elems.length = len := by omega
      rw [List.length_map, hl2, ← List.range_eq_range'] at h3
      rw [List.map_map]
      exact h3
end
end Go.Rx
