/- The rule layer of these proofs. -/
import Derived.Test.YthpejgmkiomfhaaGreatDoorRxL1
import Derived.Lib.AppendZeros
import Derived.Laws.MakeOwn
import Derived.Laws.Pointers
import Derived.Lib.BufferMore
import Derived.Lib.Overlaps
import Derived.Laws.Externs
import Derived.Lib.Mul64
import Derived.HandedShaped
set_option linter.unusedVariables false
set_option linter.unusedSimpArgs false
/- The rule layer: bytes and strings; slices of the call's own, written to and cut. -/
namespace Go.Rx
open Go Go.RowKit
set_option linter.unusedVariables false
set_option linter.unusedSimpArgs false
theorem addrB (b o m : Nat) : (⟨b, o, none⟩ : Addr).add m = ⟨b, o + m, none⟩ := by unfold Addr.add; split <;> simp_all
def bytesOf (s : ByteArray) : List Int := s.data.toList.map fun b => (b.toNat : Int)
theorem bytesOf_length (s : ByteArray) : (bytesOf s).length = s.size := by simp [bytesOf]
theorem bytesOf_range (s : ByteArray) : ∀ n ∈ bytesOf s, 0 ≤ n ∧ n ≤ 255 := by
  intro n hn
  obtain ⟨b, _, rfl⟩ := List.mem_map.1 hn
  have := b.toNat_lt
  omega
theorem strOf_bytes (s : ByteArray) : strOf (bytesOf s) = s := by
  unfold strOf bytesOf
  rw [foldl_push_byteCells]
  have he0 : ByteArray.empty.data = #[] := rfl
  rw [he0]
  simp
theorem byteCells_eq (s : ByteArray) : byteCells s = (bytesOf s).flatMap byteEnc := by
  unfold byteCells bytesOf
  induction s.data.toList with
  | nil => rfl
  | cons b l ih =>
    simp only [List.map_cons, List.flatMap_cons, ih]
    rfl
theorem strOf_toList (l : List Int) : (strOf l).data.toList = l.map fun n => UInt8.ofNat n.toNat := by
  unfold strOf
  have key : ∀ (l : List Int) (r : ByteArray), (l.foldl (fun r n => r.push (UInt8.ofNat n.toNat)) r).data.toList = r.data.toList ++ l.map fun n => UInt8.ofNat n.toNat := by
    intro l
    induction l with
    | nil => intro r; simp
    | cons n l ih =>
      intro r
      rw [List.foldl_cons, ih]
      simp [ByteArray.push]
  rw [key]
  have he0 : ByteArray.empty.data = #[] := rfl
  rw [he0]
  simp
theorem bytesOf_str {l : List Int} (h : ∀ n ∈ l, 0 ≤ n ∧ n ≤ 255) : bytesOf (strOf l) = l := by
  unfold bytesOf
  rw [strOf_toList, List.map_map]
  have : l.map ((fun b : UInt8 => (b.toNat : Int)) ∘ fun n : Int => UInt8.ofNat n.toNat) = l.map id := by
    refine List.map_congr_left fun n hn => ?_
    have := h n hn
    simp only [Function.comp, id]
    have h2 : (UInt8.ofNat n.toNat).toNat = n.toNat := by
      rw [UInt8.toNat_ofNat']
      exact Nat.mod_eq_of_lt (by omega)
    rw [h2]
    omega
  rw [this, List.map_id]
theorem strOf_inj {a b : List Int} (ha : ∀ n ∈ a, 0 ≤ n ∧ n ≤ 255) (hb : ∀ n ∈ b, 0 ≤ n ∧ n ≤ 255) : strOf a = strOf b ↔ a = b := by
  constructor
  · intro h
    rw [← bytesOf_str ha, ← bytesOf_str hb, h]
  · intro h; rw [h]
theorem byteOne : ∀ (x : Int), ∀ u ∈ byteEnc x, u.oneCell' = true := by
  intro x u hu
  simp [byteEnc] at hu
  subst hu
  rfl
section
variable {P : Program} {n : Nat} {ops : Array Oper} {w0 : World} {Cs H : List Chunk} {e : Env} {K : Env → List Chunk → Prop} {rest : List Oper} {t : Nat} {ty : TypeId} {pos : String} {af : Array Edge} {x y : Operand}
theorem Seq.strBytes {src dst el : TypeId} {s : ByteArray} (ht : Nat.blt t n = true := by rfl) (hs : isStr P src = true) (hd : slcOf P dst el 1 = true) (he : intOfT P el .u8 = true) (hx : Look e x (.string s) := by repeat (first | exact Look.here | apply Look.there (hne := rfl) | exact Look.const | apply Look.mix rfl | exact Look.arg0 | apply Look.args | exact Look.func)) (hsz : s.size ≤ 4611686018427387904)
    (k : ∀ b c, Seq P n ops w0 Cs rest (.own el 1 (.slice (some ⟨b, 0, none⟩) s.size c) s.size ((bytesOf s).flatMap byteEnc) :: H) (upd e t (.slice (some ⟨b, 0, none⟩) s.size c)) K) :
    Seq P n ops w0 Cs (⟨some t, .convert src dst x, ty, pos, af, none⟩ :: rest) H e K := by
  refine Seq.f ht (R := fun v H' => ∃ b c, v = .slice (some ⟨b, 0, none⟩) s.size c ∧ H' = .own el 1 (.slice (some ⟨b, 0, none⟩) s.size c) s.size ((bytesOf s).flatMap byteEnc) :: H) ?_ ?_
  · intro w hw d pos af g
    have hr := run_bytes_of_string (P := P) w src dst el s (isStr_und hs) (slcOf_und hd).1 (intOfT_und he)
    refine ⟨.slice (some ⟨w.heap.size, 0, none⟩) s.size (grownCap w s.size 0 el), w.drew.alloc (.cells (bytesRow s (grownCap w s.size 0 el)) el ((bytesRow s (grownCap w s.size 0 el)).size, (bytesRow s (grownCap w s.size 0 el)).size + 1)), .own el 1 (.slice (some ⟨w.heap.size, 0, none⟩) s.size (grownCap w s.size 0 el)) s.size ((bytesOf s).flatMap byteEnc) :: H, .inl (by simp [execOp, hx.eq, hr]), ?_, _, _, rfl, rfl⟩
    have hge := grownCap_ge w s.size 0 el
    have hcm : grownCap w s.size 0 el ≤ maxLen := grownCap_le_maxLen w s.size 0 el (by simp only [maxLen]; omega)
    have hbs : (bytesRow s (grownCap w s.size 0 el)).size = grownCap w s.size 0 el := by
      unfold bytesRow
      rw [Array.size_append, Array.size_map, Array.size_replicate]
      have : s.data.size = s.size := rfl
      omega
    have h2 : Upd w0 (w.drew.alloc (.cells (bytesRow s (grownCap w s.size 0 el)) el ((bytesRow s (grownCap w s.size 0 el)).size, (bytesRow s (grownCap w s.size 0 el)).size + 1))) Cs (.blk w.heap.size _ :: H) := hw.drew.alloc _
    refine (h2.at_ At.z (k := ?_))
    have ho := h2.own.ok _ (List.mem_cons_self ..)
    refine ⟨rfl, rfl, rfl, Nat.le_refl _, fun _ _ _ => rfl, ⟨?_, List.pairwise_singleton _ _⟩, ?_⟩
    · intro c hc
      simp at hc
      subst hc
      refine ⟨?_, .inr ⟨w.heap.size, 0, _, _, _, rfl, ho, hge, hcm, by omega, ?_, ?_⟩⟩
      · rw [← byteCells_eq, byteCells_length, Nat.mul_one]
      · intro j h3 h4 h5
        omega
      · rw [List.drop_zero, Nat.mul_one]
        unfold bytesRow
        rw [Array.toList_append, Array.toList_map, ← byteCells_eq]
        have hl : (s.data.toList.map fun b => Value.int .u8 b.toNat).length = s.size := by simp
        rw [← hl]
        exact List.take_left
    · intro c hc j hj
      simp at hc
      subst hc
      simp [Chunk.fp, Value.ownBlock] at hj
      exact .inl ⟨_, List.mem_singleton.2 rfl, hj.symm⟩
  · rintro v H' ⟨b, c, rfl, rfl⟩
    exact k b c
theorem Src.str {tx : TypeId} (hk : isStr P tx = true) (s : ByteArray) (w : World) : Src P 1 tx (.string s) s.size ((bytesOf s).flatMap byteEnc) w := by
  rw [← byteCells_eq]
  exact Src.ofString w (isStr_und hk) s
theorem OwnR.put {w : World} {el : TypeId} {sz m : Nat} {v : Value} {xs vs : List Value} {o : Nat} (h : OwnR w el sz v m xs) (hfit : o + vs.length ≤ m * sz) (hpos : 0 < vs.length) (h1 : ∀ u ∈ vs, u.oneCell' = true) :
    ∃ g off cap w', v = .slice (some ⟨g, off, none⟩) m cap ∧ (∀ P : Program, (storeCells ⟨g, off + o, none⟩ vs).run P w = .ok () w') ∧ Upd w w' [.own el sz v m xs] [.own el sz v m (xs.take o ++ vs ++ xs.drop (o + vs.length))] := by
  rcases h.2 with ⟨rfl, rfl⟩ | ⟨g, off, cap, cur, fr, rfl, hg, hnc, hcm, hcs, hfr, htake⟩
  · omega
  · have hmul : m * sz ≤ cap * sz := Nat.mul_le_mul_right _ hnc
    have hst := fun P : Program => run_storeCells_fr (P := P) g (off + o) el fr vs 0 cur w hg (by omega) (fun j h2 h3 => hfr j (by omega) (by omega)) h1
    simp only [Nat.add_zero] at hst
    refine ⟨g, off, cap, _, rfl, hst, ?_⟩
    have h4 : (cur.toList.take (off + o)).length = off + o := by
      rw [List.length_take, Array.length_toList (xs := cur)]; omega
    have hlen : (xs.take o ++ vs ++ xs.drop (o + vs.length)).length = m * sz := by
      have := h.1
      simp only [List.length_append, List.length_take, List.length_drop]
      omega
    refine ⟨rfl, rfl, rfl, by simp, fun i hi hne => setRow_other w g i _ (fun h => hne _ (List.mem_singleton.2 rfl) (by simp [Chunk.fp, Value.ownBlock, h])), ⟨?_, List.pairwise_singleton _ _⟩, ?_⟩
    · intro c hc
      simp at hc
      subst hc
      refine ⟨by simpa using hlen, .inr ⟨g, off, cap, _, fr, rfl, setRow_heap w g _ _ _ _ hg, hnc, hcm, ?_, hfr, ?_⟩⟩
      · rw [List.size_toArray, List.length_append, List.length_append, h4, List.length_drop, Array.length_toList (xs := cur)]
        omega
      · show List.take (m * sz) (List.drop off (cur.toList.take (off + o) ++ vs ++ cur.toList.drop (off + o + vs.length))) = _
        rw [List.append_assoc, List.drop_append_of_le_length (by rw [h4]; omega)]
        have e1 : List.drop off (cur.toList.take (off + o)) = xs.take o := by
          rw [List.drop_take, ← htake, List.take_take]
          congr 1
          omega
        rw [e1]
        have e2 : (xs.take o).length = o := by rw [List.length_take, h.1]; omega
        have e3 : List.take (m * sz - (o + vs.length)) (cur.toList.drop (off + o + vs.length)) = xs.drop (o + vs.length) := by
          rw [← htake, List.drop_take, List.drop_drop]
          congr 2
          omega
        have e4 : m * sz = (xs.take o ++ vs).length + (m * sz - (o + vs.length)) := by
          rw [List.length_append, e2]; omega
        rw [← List.append_assoc, e4, List.take_length_add_append, e3, List.append_assoc]
    · intro c hc j hj
      simp at hc
      subst hc
      exact .inl ⟨_, List.mem_singleton.2 rfl, hj⟩
theorem Ev.addN {m c : Nat} {tx ty' : TypeId} (hx : Look e x (.int .i64 (m : Int)) := by repeat (first | exact Look.here | apply Look.there (hne := rfl) | exact Look.const | apply Look.mix rfl | exact Look.arg0 | apply Look.args | exact Look.func)) (hy : Look e y (.int .i64 (c : Int)) := by repeat (first | exact Look.here | apply Look.there (hne := rfl) | exact Look.const | apply Look.mix rfl | exact Look.arg0 | apply Look.args | exact Look.func)) (h : m + c ≤ 9223372036854775807 := by omega) : Ev P w0 Cs H e (.binOp .add tx x y ty') ty (.int .i64 ((m + c : Nat) : Int)) := by
  have h2 := Ev.add (P := P) (w0 := w0) (Cs := Cs) (H := H) (ty := ty) (tx := tx) (ty' := ty') hx hy (by omega)
  rw [show ((m + c : Nat) : Int) = (m : Int) + (c : Int) by omega]
  exact h2
theorem Ev.capSl {A : Option Addr} {m c sz : Nat} {tt el : TypeId} (ht : slcOf P tt el sz = true) (hx : Look e x (.slice A m c) := by repeat (first | exact Look.here | apply Look.there (hne := rfl) | exact Look.const | apply Look.mix rfl | exact Look.arg0 | apply Look.args | exact Look.func)) : Ev P w0 Cs H e (.call ⟨.builtin .cap, #[x], #[tt]⟩) ty (.int .i64 (c : Int)) := by
  intro w _ d pos af g
  replace hx := hx.eq
  simp [execOp, resolve, invoke, builtin, hx, Builtin.cap_, run_underlying (slcOf_und ht).1, goInt]
theorem Ev.cutHi {A : Option Addr} {m c sz : Nat} {h : Nat} {tt el : TypeId} {k : IntKind} (hs : slcOf P tt el sz = true) (hx : Look e x (.slice A m c) := by repeat (first | exact Look.here | apply Look.there (hne := rfl) | exact Look.const | apply Look.mix rfl | exact Look.arg0 | apply Look.args | exact Look.func)) (hy : Look e y (.int k (h : Int)) := by repeat (first | exact Look.here | apply Look.there (hne := rfl) | exact Look.const | apply Look.mix rfl | exact Look.arg0 | apply Look.args | exact Look.func)) (hh : h ≤ c := by omega) : Ev P w0 Cs H e (.slice tt x none (some y) none) ty (.slice A h c) := by
  intro w _ d pos af g
  replace hx := hx.eq
  replace hy := hy.eq
  obtain ⟨hu, hz⟩ := slcOf_und hs
  have g1 : ¬ c < h := by omega
  cases A with
  | none => simp [execOp, hx, hy, Instr.sliceAt, Instr.slice, run_underlying hu, Instr.sliceBounds, Instr.sliceBound, asIntOf, hh, szOf_run hz]
  | some a =>
    have e1 : a.add 0 = a := Addr.add_zero a
    simp [execOp, hx, hy, Instr.sliceAt, Instr.slice, run_underlying hu, Instr.sliceBounds, Instr.sliceBound, asIntOf, hh, szOf_run hz, e1]
theorem Seq.growNil {ts tn el : TypeId} {size bytes m : Nat} {k kn : IntKind} (ht : Nat.blt t n = true := by rfl) (hsl : slcOf P ts el size = true) (he : elOf P el size bytes = true) (hi : intOfT P tn kn = true)
    (hx : Look e x (.slice none 0 0) := by repeat (first | exact Look.here | apply Look.there (hne := rfl) | exact Look.const | apply Look.mix rfl | exact Look.arg0 | apply Look.args | exact Look.func)) (hy : Look e y (.int k (m : Int)) := by repeat (first | exact Look.here | apply Look.there (hne := rfl) | exact Look.const | apply Look.mix rfl | exact Look.arg0 | apply Look.args | exact Look.func)) (h0 : 0 < m := by omega) (h63 : m ≤ 4611686018427387904 := by omega) (hb : m * bytes ≤ 140737488355328 := by omega)
    (kk : ∀ b c zs, Seq P n ops w0 Cs rest (.own el size (.slice (some ⟨b, 0, none⟩) m c) m zs :: H) (upd e t (.slice (some ⟨b, 0, none⟩) m c)) K) :
    Seq P n ops w0 Cs (⟨some t, .call ⟨.builtin .append, #[x, y], #[ts, tn]⟩, ty, pos, af, none⟩ :: rest) H e K := by
  refine Seq.f ht (R := fun v H' => ∃ b c zs, v = .slice (some ⟨b, 0, none⟩) m c ∧ H' = .own el size (.slice (some ⟨b, 0, none⟩) m c) m zs :: H) ?_ ?_
  · intro w hw d pos af g
    obtain ⟨i, z, hi2, rfl, rfl, hpos, hz, hzs⟩ := elOf_parts he
    have hr := Lib.run_append_nil_zeros (P := P) w ts tn ty el i z k kn (slcOf_und hsl).1 (intOfT_und hi) hi2 hz m h0 hpos (by omega) (by omega)
    have hge := grownCap_ge w m 0 el
    have hcm : grownCap w m 0 el ≤ maxLen := grownCap_le_maxLen w m 0 el (by simp only [maxLen]; omega)
    refine ⟨.slice (some ⟨w.heap.size, 0, none⟩) m (grownCap w m 0 el), w.drew.alloc (.cells (Builtin.zeroCells z.cells m ++ Builtin.zeroCells z.cells (grownCap w m 0 el - m)) el), .own el i.size (.slice (some ⟨w.heap.size, 0, none⟩) m (grownCap w m 0 el)) m (Builtin.zeroCells z.cells m).toList :: H, .inl (by simp [execOp, resolve, invoke, builtin, hx.eq, hy.eq, hr]), ?_, _, _, _, rfl, rfl⟩
    have h2 : Upd w0 (w.drew.alloc (.cells (Builtin.zeroCells z.cells m ++ Builtin.zeroCells z.cells (grownCap w m 0 el - m)) el)) Cs (.blk w.heap.size _ :: H) := hw.drew.alloc _
    refine (h2.at_ At.z (k := ?_))
    have ho := h2.own.ok _ (List.mem_cons_self ..)
    refine ⟨rfl, rfl, rfl, Nat.le_refl _, fun _ _ _ => rfl, ⟨?_, List.pairwise_singleton _ _⟩, ?_⟩
    · intro c hc
      simp only [List.mem_singleton] at hc
      subst hc
      have hl : (Builtin.zeroCells z.cells m).toList.length = m * i.size := by rw [Array.length_toList, size_zeroCells, hzs]
      refine ⟨hl, .inr ⟨w.heap.size, 0, _, _, _, rfl, ho, hge, hcm, ?_, by intro j _ _ h; simp at h, ?_⟩⟩
      · rw [Array.size_append, size_zeroCells, size_zeroCells, hzs, ← Nat.add_mul, Nat.zero_add]
        exact Nat.mul_le_mul_right _ (by omega)
      · rw [Array.toList_append, List.drop_zero, ← hl]
        exact List.take_left
    · intro c hc j hj
      simp only [List.mem_singleton] at hc
      subst hc
      simp [Chunk.fp, Value.ownBlock] at hj
      exact .inl ⟨_, List.mem_singleton.2 rfl, hj.symm⟩
  · rintro v H' ⟨b, c, zs, rfl, rfl⟩
    exact kk b c zs
theorem Upd.own0 {w0 w : World} {Cs H : List Chunk} {el : TypeId} {sz i m b o c : Nat} {xs : List Value} (h : Upd w0 w Cs H) (hH : At H i (.own el sz (.slice (some ⟨b, o, none⟩) m c) m xs)) : Upd w0 w Cs (H.set i (.own el sz (.slice (some ⟨b, o, none⟩) 0 c) 0 [])) := by
  refine h.at_ hH ?_
  have hok : OwnR w el sz (.slice (some ⟨b, o, none⟩) m c) m xs := hH.ok h
  refine ⟨rfl, rfl, rfl, Nat.le_refl _, fun _ _ _ => rfl, ⟨?_, List.pairwise_singleton _ _⟩, ?_⟩
  · intro d hd
    simp only [List.mem_singleton] at hd
    subst hd
    rcases hok.2 with ⟨h0, _⟩ | ⟨g, off, cap, cur, fr, he, hg, hnc, hcm, hcs, hfr, htake⟩
    · cases h0
    · cases he
      exact ⟨by simp, .inr ⟨b, o, c, cur, fr, rfl, hg, by omega, hcm, hcs, hfr, by simp⟩⟩
  · intro d hd j hj
    simp only [List.mem_singleton] at hd
    subst hd
    exact .inl ⟨_, List.mem_singleton.2 rfl, hj⟩
end
end Go.Rx
/- The rule layer: slices made. -/
namespace Go.Rx
open Go Go.RowKit
set_option linter.unusedVariables false
set_option linter.unusedSimpArgs false
section
variable {P : Program} {n : Nat} {ops : Array Oper} {w0 : World} {Cs H : List Chunk} {e : Env} {K : Env → List Chunk → Prop} {rest : List Oper} {t : Nat} {ty : TypeId} {pos : String} {af : Array Edge} {x y : Operand}
theorem Ev.as {op : Op} {v v' : Value} (hv : v = v') (h : Ev P w0 Cs H e op ty v) : Ev P w0 Cs H e op ty v' := hv ▸ h
theorem Ev.subN {a b : Nat} {tx ty' : TypeId} (hx : Look e x (.int .i64 (a : Int)) := by repeat (first | exact Look.here | apply Look.there (hne := rfl) | exact Look.const | apply Look.mix rfl | exact Look.arg0 | apply Look.args | exact Look.func)) (hy : Look e y (.int .i64 (b : Int)) := by repeat (first | exact Look.here | apply Look.there (hne := rfl) | exact Look.const | apply Look.mix rfl | exact Look.arg0 | apply Look.args | exact Look.func)) (h : b ≤ a := by omega) (h2 : a ≤ 9223372036854775807 := by omega) : Ev P w0 Cs H e (.binOp .sub tx x y ty') ty (.int .i64 ((a - b : Nat) : Int)) :=
  Ev.as (by congr 1; omega) (Ev.sub hx hy (by omega))
end
theorem Part.at {c : Chunk} {H' H : List Chunk} {i : Nat} (h : At H i c) (k : Part H' (H.eraseIdx i)) : Part (c :: H') H := by
  obtain ⟨G, hG⟩ := k
  exact ⟨G, (hG.cons c).trans h.perm⟩
section
variable {P : Program} {n : Nat} {ops : Array Oper} {w0 : World} {Cs H : List Chunk} {e : Env} {ty : TypeId} {x y : Operand} {Q : Exit → Env → List Chunk → Prop}
end
theorem OwnR.some {w : World} {el : TypeId} {sz m c : Nat} {A : Option Addr} {xs : List Value} (h : OwnR w el sz (.slice A m c) m xs) (hm : 0 < m) : ∃ g o, A = Option.some ⟨g, o, none⟩ := by
  rcases h.2 with ⟨h1, h2⟩ | ⟨g, off, cap, cur, fr, h1, _⟩
  · omega
  · cases h1
    exact ⟨g, off, rfl⟩
end Go.Rx
/- The rule layer: copy onto a slice of the call's own; zeros appended behind a part of one; a slice seen with all its room. -/
namespace Go.Rx
open Go Go.RowKit
set_option linter.unusedVariables false
set_option linter.unusedSimpArgs false
theorem own_full {w : World} {el : TypeId} {sz m c : Nat} {a : Addr} {xs : List Value} (h : OwnR w el sz (.slice (some a) m c) m xs) : ∃ zs, zs.length = (c - m) * sz ∧ m ≤ c ∧ c ≤ maxLen ∧ a.spot = none ∧ OwnR w el sz (.slice (some a) c c) c (xs ++ zs) := by
  rcases h.2 with ⟨h0, _⟩ | ⟨g, off, cap, cur, fr, he, hg, hnc, hcm, hcs, hfr, htake⟩
  · cases h0
  · cases he
    have hl := h.1
    have hms : c * sz = m * sz + (c - m) * sz := by rw [← Nat.add_mul]; congr 1; omega
    have hcl : (cur.toList.drop off).length = cur.size - off := by rw [List.length_drop, Array.length_toList]
    refine ⟨((cur.toList.drop off).drop (m * sz)).take ((c - m) * sz), ?_, hnc, hcm, rfl, ?_, .inr ⟨g, off, c, cur, fr, rfl, hg, Nat.le_refl _, hcm, hcs, hfr, ?_⟩⟩
    · rw [List.length_take, List.length_drop, hcl]; omega
    · rw [List.length_append, List.length_take, List.length_drop, hcl, hl]; omega
    · rw [← htake, hms, List.take_add]
theorem own_short {w : World} {el : TypeId} {sz m c : Nat} {a : Addr} {xs : List Value} (h : OwnR w el sz (.slice (some a) c c) c xs) (hm : m ≤ c) : OwnR w el sz (.slice (some a) m c) m (xs.take (m * sz)) := by
  rcases h.2 with ⟨h0, _⟩ | ⟨g, off, cap, cur, fr, he, hg, hnc, hcm, hcs, hfr, htake⟩
  · cases h0
  · cases he
    have := Nat.mul_le_mul_right sz hm
    refine ⟨by rw [List.length_take, h.1]; omega, .inr ⟨g, off, c, cur, fr, rfl, hg, hm, hcm, hcs, hfr, ?_⟩⟩
    rw [← htake, List.take_take]
    congr 1
    omega
theorem Upd.same {w : World} {e : TypeId} {size n n' : Nat} {v v' : Value} {xs xs' : List Value} (ho : OwnR w e size v' n' xs') (hv : ∀ k, v'.ownBlock = some k → v.ownBlock = some k) :
    Upd w w [.own e size v n xs] [.own e size v' n' xs'] := by
  refine ⟨rfl, rfl, rfl, Nat.le_refl _, fun _ _ _ => rfl, ⟨?_, List.pairwise_singleton _ _⟩, ?_⟩
  · intro c hc
    simp only [List.mem_singleton] at hc
    subst hc
    exact ho
  · intro c hc i hi
    simp only [List.mem_singleton] at hc
    subst hc
    exact .inl ⟨_, List.mem_singleton.2 rfl, hv i hi⟩
section
variable {P : Program} {n : Nat} {ops : Array Oper} {w0 : World} {Cs H : List Chunk} {e : Env} {K : Env → List Chunk → Prop} {rest : List Oper} {t : Nat} {ty : TypeId} {pos : String} {af : Array Edge} {x y : Operand} {Q : Exit → Env → List Chunk → Prop}
theorem JC.full {c : Code} {el : TypeId} {sz m cp i : Nat} {a : Addr} {xs : List Value} (hH : At H i (.own el sz (.slice (some a) m cp) m xs))
    (k : ∀ zs, zs.length = (cp - m) * sz → m ≤ cp → cp ≤ maxLen → a.spot = none → JC P n w0 Cs c (H.set i (.own el sz (.slice (some a) cp cp) cp (xs ++ zs))) e Q) : JC P n w0 Cs c H e Q := by
  intro a' w hf hw
  have hok : OwnR w el sz _ m xs := hH.ok hw
  obtain ⟨zs, h1, h2, h3, h4, h5⟩ := own_full hok
  exact k zs h1 h2 h3 h4 a' w hf (hw.at_ hH (Upd.same h5 (fun _ h => h)))
theorem Upd.short {w : World} {el : TypeId} {sz m c i : Nat} {a : Addr} {xs : List Value} (hw : Upd w0 w Cs H) (hH : At H i (.own el sz (.slice (some a) c c) c xs)) (hm : m ≤ c) : Upd w0 w Cs (H.set i (.own el sz (.slice (some a) m c) m (xs.take (m * sz)))) :=
  hw.at_ hH (Upd.same (own_short (hH.ok hw) hm) (fun _ h => h))
theorem own_live {el : TypeId} {sz m cp i : Nat} {a : Option Addr} {xs : List Value} (hH : At H i (.own el sz (.slice a m cp) m xs)) {w : World} (hw : Upd w0 w Cs H) : m ≤ cp ∧ cp ≤ maxLen ∧ xs.length = m * sz := by
  have hok : OwnR w el sz _ m xs := hH.ok hw
  rcases hok.2 with ⟨h0, h1⟩ | ⟨g, off, cap, cur, fr, he, hg, hnc, hcm, hcs, hfr, htake⟩
  · cases h0
    exact ⟨by omega, by simp only [maxLen]; omega, hok.1⟩
  · cases he
    exact ⟨hnc, hcm, hok.1⟩
theorem JC.lens {c : Code} {el : TypeId} {sz m cp i : Nat} {a : Option Addr} {xs : List Value} (hH : At H i (.own el sz (.slice a m cp) m xs))
    (k : m ≤ cp → cp ≤ maxLen → xs.length = m * sz → JC P n w0 Cs c H e Q) : JC P n w0 Cs c H e Q := by
  intro a' w hf hw
  obtain ⟨h1, h2, h3⟩ := own_live hH hw
  exact k h1 h2 h3 a' w hf hw
theorem Cells.own {el : TypeId} {sz m cp i g off o : Nat} {xs cs : List Value} (hH : At H i (.own el sz (.slice (some ⟨g, off, none⟩) m cp) m xs)) (hd : ∀ j u, cs[j]? = some u → xs[o + j]? = some u) : Cells w0 Cs H ⟨g, off + o, none⟩ cs := by
  intro w hw j u hu
  have hok : OwnR w el sz _ m xs := hH.ok hw
  rw [addrB, Nat.add_assoc]
  exact hok.cells (o + j) u (hd j u hu)
theorem Seq.copyOwn {dT sT el : TypeId} {sz m cp dl dc sl sc g off o i k : Nat} {a : Addr} {xs cs : List Value} (ht : Nat.blt t n = true := by rfl) (hd : slcOf P dT el sz = true)
    (hx : Look e x (.slice (some ⟨g, off + o, none⟩) dl dc) := by repeat (first | exact Look.here | apply Look.there (hne := rfl) | exact Look.const | apply Look.mix rfl | exact Look.arg0 | apply Look.args | exact Look.func)) (hy : Look e y (.slice (some a) sl sc) := by repeat (first | exact Look.here | apply Look.there (hne := rfl) | exact Look.const | apply Look.mix rfl | exact Look.arg0 | apply Look.args | exact Look.func)) (hH : At H i (.own el sz (.slice (some ⟨g, off, none⟩) m cp) m xs) := by repeat (first | exact At.z | apply At.s))
    (hk : Nat.min sl dl = k) (hcs : Cells w0 Cs H a cs) (hl : cs.length = k * sz) (hpos : 0 < cs.length) (h1 : ∀ u ∈ cs, u.oneCell' = true) (hfit : o + cs.length ≤ m * sz)
    (kk : Seq P n ops w0 Cs rest (H.set i (.own el sz (.slice (some ⟨g, off, none⟩) m cp) m (xs.take o ++ cs ++ xs.drop (o + cs.length)))) (upd e t (goInt k)) K) :
    Seq P n ops w0 Cs (⟨some t, .call ⟨.builtin .copy, #[x, y], #[dT, sT]⟩, ty, pos, af, none⟩ :: rest) H e K := by
  refine Seq.f ht (R := fun v H' => v = goInt k ∧ H' = H.set i (.own el sz (.slice (some ⟨g, off, none⟩) m cp) m (xs.take o ++ cs ++ xs.drop (o + cs.length)))) ?_ ?_
  · intro w hw d pos af g2
    have hok : OwnR w el sz _ m xs := hH.ok hw
    obtain ⟨g', off', cap, w', he, hst, hup⟩ := hok.put (vs := cs) (o := o) hfit hpos h1
    cases he
    obtain ⟨hu, hz⟩ := slcOf_und hd
    have hld := run_loadCells_list (P := P) w a cs (fun j v hj => hcs w hw j v hj)
    have hst2 := hst P
    have hr : (Builtin.copy_ #[dT, sT] ty #[.slice (some ⟨g, off + o, none⟩) dl dc, .slice (some a) sl sc]).run P w = .ok (goInt k) w' := by
      simp [Builtin.copy_, run_underlying hu, Builtin.lenOf, Builtin.firstCells, szOf_run hz, hk, ← hl, hld, hst2]
    exact ⟨goInt k, w', _, .inl (by simp [execOp, resolve, invoke, builtin, hx.eq, hy.eq, hr]), hw.at_ hH hup, rfl, rfl⟩
  · rintro v H' ⟨rfl, rfl⟩
    exact kk
theorem Ev.lenH {A : Option Addr} {m c sz : Nat} {tt el : TypeId} (ht : slcOf P tt el sz = true) (hx : Look e x (.slice A m c) := by repeat (first | exact Look.here | apply Look.there (hne := rfl) | exact Look.const | apply Look.mix rfl | exact Look.arg0 | apply Look.args | exact Look.func)) : Ev P w0 Cs H e (.call ⟨.builtin .len, #[x], #[tt]⟩) ty (.int .i64 (m : Int)) := by
  intro w _ d pos af g
  replace hx := hx.eq
  simp [execOp, resolve, invoke, builtin, hx, Builtin.len_, run_underlying (slcOf_und ht).1, goInt]
theorem Ev.cutLo {g off m c sz l : Nat} {tt el : TypeId} {k : IntKind} (hs : slcOf P tt el sz = true) (hx : Look e x (.slice (some ⟨g, off, none⟩) m c) := by repeat (first | exact Look.here | apply Look.there (hne := rfl) | exact Look.const | apply Look.mix rfl | exact Look.arg0 | apply Look.args | exact Look.func)) (hy : Look e y (.int k (l : Int)) := by repeat (first | exact Look.here | apply Look.there (hne := rfl) | exact Look.const | apply Look.mix rfl | exact Look.arg0 | apply Look.args | exact Look.func)) (hl : l ≤ m := by omega) (hc : l < c := by omega) :
    Ev P w0 Cs H e (.slice tt x (some y) none none) ty (.slice (some ⟨g, off + l * sz, none⟩) (m - l) (c - l)) := by
  intro w _ d pos af g2
  replace hx := hx.eq
  replace hy := hy.eq
  obtain ⟨hu, hz⟩ := slcOf_und hs
  have g1 : ¬ c = l := by omega
  simp [execOp, hx, hy, Instr.sliceAt, Instr.slice, run_underlying hu, Instr.sliceBounds, Instr.sliceBound, asIntOf, hl, g1, szOf_run hz, addrB]
theorem Ev.notOver {f : FuncId} {fn : Func} {tS tR tA el : TypeId} {ats : Array TypeId} {sz i j va la ca g off off2 lb cb m cp : Nat} {cs xs : List Value} (hf : P.funcs[f]? = some fn) (hn : (fn.name == "runtime.NumGoroutine") = false) (hb : fn.body.isNone = true) (hfn : Extern.findNext fn = none)
    (he : Extern.find fn = some (Extern.SlicesOverlaps.overlaps #[tS, tS] #[tR])) (hd : slcOf P tS el sz = true)
    (hx : Look e x (.slice (some ⟨va, 0, none⟩) la ca) := by repeat (first | exact Look.here | apply Look.there (hne := rfl) | exact Look.const | apply Look.mix rfl | exact Look.arg0 | apply Look.args | exact Look.func)) (hy : Look e y (.slice (some ⟨g, off2, none⟩) lb cb) := by repeat (first | exact Look.here | apply Look.there (hne := rfl) | exact Look.const | apply Look.mix rfl | exact Look.arg0 | apply Look.args | exact Look.func))
    (hA : At H i (.box va tA cs)) (hB : At H j (.own el sz (.slice (some ⟨g, off, none⟩) m cp) m xs)) (hij : i ≠ j) (hxs : 0 < xs.length) :
    Ev P w0 Cs H e (.call ⟨.value (.func f), #[x, y], ats⟩) ty (.bool false) := by
  intro w hw d pos af g2
  have hbA : w.heap[va]? = some (.cells cs.toArray tA (0, 0)) := hA.ok hw
  have hok : OwnR w el sz _ m xs := hB.ok hw
  have hne : va ≠ g := by
    intro h
    subst h
    have hs := hw.own.sep
    have hap : ∀ (i j : Nat) (c d : Chunk), i < j → H[i]? = some c → H[j]? = some d → apart c d := fun i j c d hlt hc hd => by
      obtain ⟨h1, rfl⟩ := List.getElem?_eq_some_iff.1 hc
      obtain ⟨h2, rfl⟩ := List.getElem?_eq_some_iff.1 hd
      exact List.pairwise_iff_getElem.1 hs i j h1 h2 hlt
    rcases Nat.lt_or_gt_of_ne hij with h | h
    · exact hap i j _ _ h hA.eq hB.eq va rfl rfl
    · exact hap j i _ _ h hB.eq hA.eq va rfl rfl
  rcases hok.2 with ⟨h0, _⟩ | ⟨g', off', cap, cur, fr, hee, hg, hnc, hcm, hcs, hfr, htake⟩
  · cases h0
  · cases hee
    have hkB : cur.size ≠ 0 := by
      have h1 := hok.1
      have h2 : m * sz ≤ cp * sz := Nat.mul_le_mul_right _ hnc
      omega
    have hr := Lib.run_overlaps_apart (P := P) w tS tR el (slcOf_und hd).1 sz (szOf_run (slcOf_und hd).2) ⟨va, 0, none⟩ ⟨g, off2, none⟩ la ca lb cb hne tA el cs.toArray.size cur.size (by unfold World.shape?; rw [hbA]) (by unfold World.shape?; rw [hg]) hkB (by simp [World.frozen?, hbA]) (by simp [World.frozen?, hbA])
    have hr2 := run_callFunc_extern hf hn hb hfn he #[.slice (some ⟨va, 0, none⟩) la ca, .slice (some ⟨g, off2, none⟩) lb cb] w
    rw [hr] at hr2
    have hfe : ev e (.func f) = .func (.func f) #[] #[] := rfl
    simp [execOp, resolve, Deferred.ofValue, invoke, hx.eq, hy.eq, hfe, hr2, Result.andThen]
theorem run_append_grow_zeros {w : World} (tt tn ty el : TypeId) (i : TypeInfo) (z : Value) (k kn : IntKind) (ht : P.underlying tt = some (.slice el)) (htn : P.underlying tn = some (.int kn)) (hi : P.info? el = some i) (hz : i.zero = some z)
    (base : Option Addr) (sLen sCap : Nat) (olds : List Value) (hold : (Builtin.firstCells i.size sLen (.slice base sLen sCap)).run P w.drew = .ok olds.toArray w.drew)
    (m : Nat) (h0 : 0 < m) (hs : 0 < i.size) (hn : sCap < sLen + m) (h63 : sLen + m ≤ 4611686018427387904) (hb : (sLen + m) * i.bytes ≤ 140737488355328) :
    (Builtin.append_ #[tt, tn] ty #[.slice base sLen sCap, .int k m]).run P w =
      .ok (.slice (some ⟨w.heap.size, 0, none⟩) (sLen + m) (grownCap w (sLen + m) sCap el)) (w.drew.alloc (.cells (olds.toArray ++ Builtin.zeroCells z.cells m ++ Builtin.zeroCells z.cells (grownCap w (sLen + m) sCap el - (sLen + m))) el)) := by
  have hw : IntKind.i64.wrap (m : Int) = m := by rw [IntKind.wrap_i64]; omega
  have hn' : ¬ (sLen + m ≤ sCap) := by omega
  have h63' : ¬ (9223372036854775807 < ((sLen : Int) + (m : Int))) := by omega
  have h1 := growslice_fits (need := sLen + m) (old := sCap) (bytes := i.bytes) (by omega) hb
  have h48' : ¬ (281474976710656 < Builtin.nextslicecap (sLen + m) sCap * i.bytes) := by omega
  have h2 : m * i.bytes ≤ (sLen + m) * i.bytes := Nat.mul_le_mul_right _ (by omega)
  have h48i : ¬ (281474976710656 < (m : Int) * (i.bytes : Int)) := by
    rw [← Int.natCast_mul]
    omega
  have hneg : ¬ ((m : Int) < 0) := by omega
  have hns : ¬ (m * i.size = 0) := Nat.mul_ne_zero (by omega) (by omega)
  have hm0 : m ≠ 0 := by omega
  have hs0 : i.size ≠ 0 := by omega
  simp [Builtin.append_, run_underlying ht, run_underlying htn, sizeOf, typeInfo, zeroValue, hi, hz, asInt, asIntOf, hw, hneg, hns, hm0, hs0, hn', h63', h48', h48i, Question.forced, hold, newRow, grownCap]
theorem Seq.growZeros {ts tn el : TypeId} {size bytes m q l cp i : Nat} {a : Addr} {xs : List Value} {k kn : IntKind} (ht : Nat.blt t n = true := by rfl) (hsl : slcOf P ts el size = true) (he : elOf P el size bytes = true) (hi : intOfT P tn kn = true)
    (hx : Look e x (.slice (some a) q cp) := by repeat (first | exact Look.here | apply Look.there (hne := rfl) | exact Look.const | apply Look.mix rfl | exact Look.arg0 | apply Look.args | exact Look.func)) (hy : Look e y (.int k (m : Int)) := by repeat (first | exact Look.here | apply Look.there (hne := rfl) | exact Look.const | apply Look.mix rfl | exact Look.arg0 | apply Look.args | exact Look.func)) (hH : At H i (.own el size (.slice (some a) l cp) l xs) := by repeat (first | exact At.z | apply At.s)) (hq : q ≤ l := by omega) (h0 : 0 < m := by omega) (hn : cp < q + m := by omega) (h63 : q + m ≤ 4611686018427387904 := by omega) (hb : (q + m) * bytes ≤ 140737488355328 := by omega)
    (kk : ∀ b c zs, zs.length = m * size → Seq P n ops w0 Cs rest (.own el size (.slice (some ⟨b, 0, none⟩) (q + m) c) (q + m) (xs.take (q * size) ++ zs) :: H) (upd e t (.slice (some ⟨b, 0, none⟩) (q + m) c)) K) :
    Seq P n ops w0 Cs (⟨some t, .call ⟨.builtin .append, #[x, y], #[ts, tn]⟩, ty, pos, af, none⟩ :: rest) H e K := by
  refine Seq.f ht (R := fun v H' => ∃ b c zs, zs.length = m * size ∧ v = .slice (some ⟨b, 0, none⟩) (q + m) c ∧ H' = .own el size (.slice (some ⟨b, 0, none⟩) (q + m) c) (q + m) (xs.take (q * size) ++ zs) :: H) ?_ ?_
  · intro w hw d pos af g
    obtain ⟨j, z, hi2, rfl, rfl, hpos, hz, hzs⟩ := elOf_parts he
    have hok : OwnR w el j.size _ l xs := hH.ok hw
    have hlen := hok.1
    have hql : q * j.size ≤ l * j.size := Nat.mul_le_mul_right _ hq
    have htl : (xs.take (q * j.size)).length = q * j.size := by rw [List.length_take, hlen]; omega
    have hold : (Builtin.firstCells j.size q (.slice (some a) q cp)).run P w.drew = .ok (xs.take (q * j.size)).toArray w.drew := by
      refine run_firstCells_some w.drew j.size q a q cp _ htl ?_
      intro p u hu
      rcases hok.2 with ⟨h0, _⟩ | ⟨g', off', cap, cur, fr, hee, hg, _⟩
      · cases h0
      · cases hee
        rw [addrB]
        refine hok.cells p u ?_
        rw [List.getElem?_take] at hu
        split at hu
        · exact hu
        · cases hu
    have hr := run_append_grow_zeros (P := P) (w := w) ts tn ty el j z k kn (slcOf_und hsl).1 (intOfT_und hi) hi2 hz (some a) q cp _ hold m h0 hpos hn h63 hb
    have hge := grownCap_ge w (q + m) cp el
    have hcm : grownCap w (q + m) cp el ≤ maxLen := grownCap_le_maxLen w (q + m) cp el (by simp only [maxLen]; omega)
    refine ⟨.slice (some ⟨w.heap.size, 0, none⟩) (q + m) (grownCap w (q + m) cp el), w.drew.alloc (.cells ((xs.take (q * j.size)).toArray ++ Builtin.zeroCells z.cells m ++ Builtin.zeroCells z.cells (grownCap w (q + m) cp el - (q + m))) el), .own el j.size (.slice (some ⟨w.heap.size, 0, none⟩) (q + m) (grownCap w (q + m) cp el)) (q + m) (xs.take (q * j.size) ++ (Builtin.zeroCells z.cells m).toList) :: H, .inl (by simp [execOp, resolve, invoke, builtin, hx.eq, hy.eq, hr]), ?_, _, _, _, by rw [Array.length_toList, size_zeroCells, hzs], rfl, rfl⟩
    have h2 : Upd w0 (w.drew.alloc (.cells ((xs.take (q * j.size)).toArray ++ Builtin.zeroCells z.cells m ++ Builtin.zeroCells z.cells (grownCap w (q + m) cp el - (q + m))) el)) Cs (.blk w.heap.size _ :: H) := hw.drew.alloc _
    refine (h2.at_ At.z (k := ?_))
    have ho := h2.own.ok _ (List.mem_cons_self ..)
    refine ⟨rfl, rfl, rfl, Nat.le_refl _, fun _ _ _ => rfl, ⟨?_, List.pairwise_singleton _ _⟩, ?_⟩
    · intro c hc
      simp only [List.mem_singleton] at hc
      subst hc
      have hl : (xs.take (q * j.size) ++ (Builtin.zeroCells z.cells m).toList).length = (q + m) * j.size := by rw [List.length_append, htl, Array.length_toList, size_zeroCells, hzs, Nat.add_mul]
      refine ⟨hl, .inr ⟨w.heap.size, 0, _, _, _, rfl, ho, hge, hcm, ?_, by intro j _ _ h; simp at h, ?_⟩⟩
      · rw [Array.size_append, Array.size_append, size_zeroCells, size_zeroCells, hzs, List.size_toArray, htl, ← Nat.add_mul, ← Nat.add_mul, Nat.zero_add]
        exact Nat.mul_le_mul_right _ (by omega)
      · rw [Array.toList_append, Array.toList_append, List.drop_zero, ← hl]
        exact List.take_left
    · intro c hc j hj
      simp only [List.mem_singleton] at hc
      subst hc
      simp [Chunk.fp, Value.ownBlock] at hj
      exact .inl ⟨_, List.mem_singleton.2 rfl, hj.symm⟩
  · rintro v H' ⟨b, c, zs, hz, rfl, rfl⟩
    exact kk b c zs hz
end
end Go.Rx
/- The rule layer: words of 64 bits as natural numbers; sums with a carry, differences with a borrow. -/
namespace Go.Rx
open Go Go.RowKit
set_option linter.unusedVariables false
set_option linter.unusedSimpArgs false
section
variable {P : Program} {w0 : World} {Cs H : List Chunk} {e : Env} {ty tx ty' : TypeId} {x y z : Operand} {a b c : Nat}
theorem Ev.ext3 {f : FuncId} {fn : Func} {en : Array Value → Sem Value} {ats : Array TypeId} {vx vy vz v : Value} (hf : P.funcs[f]? = some fn) (hn : (fn.name == "runtime.NumGoroutine") = false) (hb : fn.body.isNone = true) (hfn : Extern.findNext fn = none) (he : Extern.find fn = some en)
    (hx : Look e x vx := by repeat (first | exact Look.here | apply Look.there (hne := rfl) | exact Look.const | apply Look.mix rfl | exact Look.arg0 | apply Look.args | exact Look.func)) (hy : Look e y vy := by repeat (first | exact Look.here | apply Look.there (hne := rfl) | exact Look.const | apply Look.mix rfl | exact Look.arg0 | apply Look.args | exact Look.func)) (hz : Look e z vz := by repeat (first | exact Look.here | apply Look.there (hne := rfl) | exact Look.const | apply Look.mix rfl | exact Look.arg0 | apply Look.args | exact Look.func)) (hr : ∀ w : World, (en #[vx, vy, vz]).run P w = .ok v w) : Ev P w0 Cs H e (.call ⟨.value (.func f), #[x, y, z], ats⟩) ty v := by
  intro w hw d pos af g2
  have hr2 := run_callFunc_extern hf hn hb hfn he #[vx, vy, vz] w
  rw [hr w] at hr2
  have hfe : ev e (.func f) = .func (.func f) #[] #[] := rfl
  simp [execOp, resolve, Deferred.ofValue, invoke, hx.eq, hy.eq, hz.eq, hfe, hr2, Result.andThen]
def sub64E : Array Value → Sem Value := fun args => do
  let (x, y, b) ← Extern.MathBitsCarry.three "Sub64" args
  pure (Extern.MathBitsCarry.pair ((x + Extern.MathBitsCarry.m64 - y - b) % Extern.MathBitsCarry.m64) (if x < y + b then 1 else 0))
theorem run_add64N (x y c : Nat) (hc : c ≤ 1) (w : World) :
    (add64Entry #[.int .u64 x, .int .u64 y, .int .u64 c]).run P w = .ok (.tuple #[.int .u64 (((x + y + c) % 18446744073709551616 : Nat) : Int), .int .u64 (((x + y + c) / 18446744073709551616 : Nat) : Int)]) w := by
  rw [run_add64 x y c (by omega) (by omega) (by omega) (by omega)]
  congr 4
theorem Ev.add64 {f : FuncId} {fn : Func} {ats : Array TypeId} (hf : P.funcs[f]? = some fn) (hn : (fn.name == "runtime.NumGoroutine") = false) (hb : fn.body.isNone = true) (hfn : Extern.findNext fn = none) (he : Extern.find fn = some add64Entry)
    (hx : Look e x (.int .u64 (a : Int)) := by repeat (first | exact Look.here | apply Look.there (hne := rfl) | exact Look.const | apply Look.mix rfl | exact Look.arg0 | apply Look.args | exact Look.func)) (hy : Look e y (.int .u64 (b : Int)) := by repeat (first | exact Look.here | apply Look.there (hne := rfl) | exact Look.const | apply Look.mix rfl | exact Look.arg0 | apply Look.args | exact Look.func)) (hz : Look e z (.int .u64 (c : Int)) := by repeat (first | exact Look.here | apply Look.there (hne := rfl) | exact Look.const | apply Look.mix rfl | exact Look.arg0 | apply Look.args | exact Look.func)) (hc : c ≤ 1 := by omega) :
    Ev P w0 Cs H e (.call ⟨.value (.func f), #[x, y, z], ats⟩) ty (.tuple #[.int .u64 (((a + b + c) % 18446744073709551616 : Nat) : Int), .int .u64 (((a + b + c) / 18446744073709551616 : Nat) : Int)]) :=
  Ev.ext3 hf hn hb hfn he hx hy hz (run_add64N a b c hc)
end
end Go.Rx
/- The whole rule layer. -/
/- From the reading of a call's arguments: rows whose elements hold slices; a claim's first world with its shape. -/
namespace Go.Rx
open Go Go.RowKit
set_option linter.unusedVariables false
section
variable {H : Type} {enc : TypeId × Value → H} {P : Program} {w : World} {base : Nat} {held : Bool}
end
end Go.Rx
