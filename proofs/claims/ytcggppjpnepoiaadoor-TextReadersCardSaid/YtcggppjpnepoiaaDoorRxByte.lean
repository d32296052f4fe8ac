/- The rule layer: bytes and strings; slices of the call's own, written to and cut. -/
import Derived.Test.YtcggppjpnepoiaaDoorRxGrp
import Derived.Lib.AppendZeros
namespace Go.Rx
open Go Go.RowKit
set_option linter.unusedVariables false
set_option linter.unusedSimpArgs false
theorem addrB (b o m : Nat) : (⟨b, o, none⟩ : Addr).add m = ⟨b, o + m, none⟩ := by unfold Addr.add; split <;> simp_all
/-- The numbers of a string's bytes. -/
def bytesOf (s : ByteArray) : List Int := s.data.toList.map fun b => (b.toNat : Int)
theorem bytesOf_length (s : ByteArray) : (bytesOf s).length = s.size := by simp [bytesOf]
theorem bytesOf_range (s : ByteArray) : ∀ n ∈ bytesOf s, 0 ≤ n ∧ n ≤ 255 := by
  intro n hn
  obtain ⟨b, _, rfl⟩ := List.mem_map.1 hn
  have := b.toNat_lt
  omega
theorem strOf_bytes (s : ByteArray) : strOf (bytesOf s) = s := by
  unfold strOf bytesOf
  rw [foldl_push_byteCells]
  have he0 : ByteArray.empty.data = #[] := rfl
  rw [he0]
  simp
theorem byteCells_eq (s : ByteArray) : byteCells s = (bytesOf s).flatMap byteEnc := by
  unfold byteCells bytesOf
  induction s.data.toList with
  | nil => rfl
  | cons b l ih =>
    simp only [List.map_cons, List.flatMap_cons, ih]
    rfl
theorem strOf_toList (l : List Int) : (strOf l).data.toList = l.map fun n => UInt8.ofNat n.toNat := by
  unfold strOf
  have key : ∀ (l : List Int) (r : ByteArray), (l.foldl (fun r n => r.push (UInt8.ofNat n.toNat)) r).data.toList = r.data.toList ++ l.map fun n => UInt8.ofNat n.toNat := by
    intro l
    induction l with
    | nil => intro r; simp
    | cons n l ih =>
      intro r
      rw [List.foldl_cons, ih]
      simp [ByteArray.push]
  rw [key]
  have he0 : ByteArray.empty.data = #[] := rfl
  rw [he0]
  simp
theorem bytesOf_str {l : List Int} (h : ∀ n ∈ l, 0 ≤ n ∧ n ≤ 255) : bytesOf (strOf l) = l := by
  unfold bytesOf
  rw [strOf_toList, List.map_map]
  have : l.map ((fun b : UInt8 => (b.toNat : Int)) ∘ fun n : Int => UInt8.ofNat n.toNat) = l.map id := by
    refine List.map_congr_left fun n hn => ?_
    have := h n hn
    simp only [Function.comp, id]
    have h2 : (UInt8.ofNat n.toNat).toNat = n.toNat := by
      rw [UInt8.toNat_ofNat']
      exact Nat.mod_eq_of_lt (by omega)
    rw [h2]
    omega
  rw [this, List.map_id]
theorem strOf_inj {a b : List Int} (ha : ∀ n ∈ a, 0 ≤ n ∧ n ≤ 255) (hb : ∀ n ∈ b, 0 ≤ n ∧ n ≤ 255) : strOf a = strOf b ↔ a = b := by
  constructor
  · intro h
    rw [← bytesOf_str ha, ← bytesOf_str hb, h]
  · intro h; rw [h]
theorem bytesOf_inj {a b : ByteArray} : bytesOf a = bytesOf b ↔ a = b := by
  constructor
  · intro h
    rw [← strOf_bytes a, ← strOf_bytes b, h]
  · intro h; rw [h]
theorem byteOne : ∀ (x : Int), ∀ u ∈ byteEnc x, u.oneCell' = true := by
  intro x u hu
  simp [byteEnc] at hu
  subst hu
  rfl
theorem bytesMap (l : List Int) : l.flatMap byteEnc = l.map (Value.int .u8) := by
  induction l with
  | nil => rfl
  | cons a l ih => rw [List.flatMap_cons, ih]; rfl

section
variable {P : Program} {n : Nat} {ops : Array Oper} {w0 : World} {Cs H : List Chunk} {e : Env} {K : Env → List Chunk → Prop} {rest : List Oper} {t : Nat} {ty : TypeId} {pos : String} {af : Array Edge} {x y : Operand}
/-- '[]byte(s)': a slice of the call's own. -/
theorem Seq.strBytes {src dst el : TypeId} {s : ByteArray} (ht : Nat.blt t n = true := by rfl) (hs : isStr P src = true) (hd : slcOf P dst el 1 = true) (he : intOfT P el .u8 = true) (hx : Look e x (.string s) := by repeat (first | exact Look.here | apply Look.there (hne := rfl) | exact Look.const | apply Look.mix rfl | exact Look.arg0 | apply Look.args | exact Look.func)) (hsz : s.size ≤ 4611686018427387904)
    (k : ∀ b c, Seq P n ops w0 Cs rest (.own el 1 (.slice (some ⟨b, 0, none⟩) s.size c) s.size ((bytesOf s).flatMap byteEnc) :: H) (upd e t (.slice (some ⟨b, 0, none⟩) s.size c)) K) :
    Seq P n ops w0 Cs (⟨some t, .convert src dst x, ty, pos, af, none⟩ :: rest) H e K := by
  refine Seq.f ht (R := fun v H' => ∃ b c, v = .slice (some ⟨b, 0, none⟩) s.size c ∧ H' = .own el 1 (.slice (some ⟨b, 0, none⟩) s.size c) s.size ((bytesOf s).flatMap byteEnc) :: H) ?_ ?_
  · intro w hw d pos af g
    have hr := run_bytes_of_string (P := P) w src dst el s (isStr_und hs) (slcOf_und hd).1 (intOfT_und he)
    refine ⟨.slice (some ⟨w.heap.size, 0, none⟩) s.size (grownCap w s.size 0 el), w.drew.alloc (.cells (bytesRow s (grownCap w s.size 0 el)) el ((bytesRow s (grownCap w s.size 0 el)).size, (bytesRow s (grownCap w s.size 0 el)).size + 1)), .own el 1 (.slice (some ⟨w.heap.size, 0, none⟩) s.size (grownCap w s.size 0 el)) s.size ((bytesOf s).flatMap byteEnc) :: H, .inl (by simp [execOp, hx.eq, hr]), ?_, _, _, rfl, rfl⟩
    have hge := grownCap_ge w s.size 0 el
    have hcm : grownCap w s.size 0 el ≤ maxLen := grownCap_le_maxLen w s.size 0 el (by simp only [maxLen]; omega)
    have hbs : (bytesRow s (grownCap w s.size 0 el)).size = grownCap w s.size 0 el := by
      unfold bytesRow
      rw [Array.size_append, Array.size_map, Array.size_replicate]
      have : s.data.size = s.size := rfl
      omega
    have h2 : Upd w0 (w.drew.alloc (.cells (bytesRow s (grownCap w s.size 0 el)) el ((bytesRow s (grownCap w s.size 0 el)).size, (bytesRow s (grownCap w s.size 0 el)).size + 1))) Cs (.blk w.heap.size _ :: H) := hw.drew.alloc _
    refine (h2.at_ At.z (k := ?_))
    have ho := h2.own.ok _ (List.mem_cons_self ..)
    refine ⟨rfl, rfl, rfl, Nat.le_refl _, fun _ _ _ => rfl, ⟨?_, List.pairwise_singleton _ _⟩, ?_⟩
    · intro c hc
      simp at hc
      subst hc
      refine ⟨?_, .inr ⟨w.heap.size, 0, _, _, _, rfl, ho, hge, hcm, by omega, ?_, ?_⟩⟩
      · rw [← byteCells_eq, byteCells_length, Nat.mul_one]
      · intro j h3 h4 h5
        omega
      · rw [List.drop_zero, Nat.mul_one]
        unfold bytesRow
        rw [Array.toList_append, Array.toList_map, ← byteCells_eq]
        have hl : (s.data.toList.map fun b => Value.int .u8 b.toNat).length = s.size := by simp
        rw [← hl]
        exact List.take_left
    · intro c hc j hj
      simp at hc
      subst hc
      simp [Chunk.fp, Value.ownBlock] at hj
      exact .inl ⟨_, List.mem_singleton.2 rfl, hj.symm⟩
  · rintro v H' ⟨b, c, rfl, rfl⟩
    exact k b c
theorem run_markLit {P : Program} {w : World} {b m : Nat} {el : TypeId} {C : Array Value} (h : w.heap[b]? = some (.cells C el (0, 0))) (hm : C.size = m) : (markStringish ⟨b, 0, none⟩).run P w = .ok () { w with heap := w.heap.setIfInBounds b (.cells C el (m, m + 1)) } := by
  subst hm
  have hsh : w.shape? b = some (el, C.size) := by unfold World.shape?; rw [h]
  have hfr : w.freeze ⟨b, C.size, none⟩ 1 = { w with heap := w.heap.setIfInBounds b (.cells C el (C.size, C.size + 1)) } := by
    unfold World.freeze
    rw [if_neg (by decide)]
    show ({ w with heap := w.heap.modify b _ } : World) = _
    have hb : b < w.heap.size := (Array.getElem?_eq_some_iff.1 h).1
    congr 1
    apply Array.ext
    · simp
    · intro i h1 h2
      simp only [Array.getElem_modify, Array.getElem_setIfInBounds]
      by_cases hi : b = i
      · subst hi
        have : w.heap[b] = .cells C el (0, 0) := (Array.getElem?_eq_some_iff.1 h).2
        simp [this]
      · rw [if_neg hi, Array.getElem_setIfInBounds_ne (by simpa using h1) hi]
  simp [markStringish, hsh, hfr]
/-- A literal of bytes, made '[]byte': the array bears the run-time's mark. -/
theorem Seq.markLit {dst el : TypeId} {b i m : Nat} {cs : List Value} (ht : Nat.blt t n = true := by rfl) (hd : slcOf P dst el 1 = true) (he : intOfT P el .u8 = true) (hx : Look e x (.slice (some ⟨b, 0, none⟩) m m) := by repeat (first | exact Look.here | apply Look.there (hne := rfl) | exact Look.const | apply Look.mix rfl | exact Look.arg0 | apply Look.args | exact Look.func)) (hH : At H i (.box b el cs) := by repeat (first | exact At.z | apply At.s)) (hm : cs.length = m := by rfl) (hsm : m ≤ 4611686018427387904 := by omega)
    (k : Seq P n ops w0 Cs rest (H.set i (.own el 1 (.slice (some ⟨b, 0, none⟩) m m) m cs)) (upd e t (.slice (some ⟨b, 0, none⟩) m m)) K) :
    Seq P n ops w0 Cs (⟨some t, .convert dst dst x, ty, pos, af, none⟩ :: rest) H e K := by
  refine Seq.f ht (R := fun v H' => v = .slice (some ⟨b, 0, none⟩) m m ∧ H' = H.set i (.own el 1 (.slice (some ⟨b, 0, none⟩) m m) m cs)) ?_ ?_
  · intro w hw d pos af g
    have hb : w.heap[b]? = some (.cells cs.toArray el (0, 0)) := hH.ok hw
    have hr := run_markLit (P := P) hb (by simpa using hm)
    have hu := (slcOf_und hd).1
    refine ⟨_, { w with heap := w.heap.setIfInBounds b (.cells cs.toArray el (m, m + 1)) }, _, .inl ?_, ?_, rfl, rfl⟩
    · simp [execOp, hx.eq, convert, run_underlying hu, run_underlying (intOfT_und he), hr]
    · refine Upd.at_ hw hH ?_
      have h3 : Upd w { w with heap := w.heap.setIfInBounds b (.cells cs.toArray el (m, m + 1)) } [.blk b (.cells cs.toArray el (0, 0))] [.blk b (.cells cs.toArray el (m, m + 1))] := Upd.obj hb
      refine ⟨h3.os, h3.tape, h3.output, h3.size, h3.keep, ⟨?_, List.pairwise_singleton _ _⟩, ?_⟩
      · intro c hc
        simp at hc
        subst hc
        have ho := h3.own.ok _ (List.mem_cons_self ..)
        refine ⟨by omega, .inr ⟨b, 0, m, _, _, rfl, ho, Nat.le_refl _, by simp only [maxLen]; omega, by simp [hm], ?_, ?_⟩⟩
        · intro j h4 h5 h6
          simp at h6
          omega
        · simp [← hm]
      · intro c hc j hj
        simp at hc
        subst hc
        simp [Chunk.fp, Value.ownBlock] at hj
        exact .inl ⟨_, List.mem_singleton.2 rfl, hj.symm⟩
  · rintro v H' ⟨rfl, rfl⟩
    exact k
/-- A string's bytes, appended. -/
theorem Src.str {tx : TypeId} (hk : isStr P tx = true) (s : ByteArray) (w : World) : Src P 1 tx (.string s) s.size ((bytesOf s).flatMap byteEnc) w := by
  rw [← byteCells_eq]
  exact Src.ofString w (isStr_und hk) s
/-- Cells of a slice of the call's own are written. -/
theorem OwnR.put {w : World} {el : TypeId} {sz m : Nat} {v : Value} {xs vs : List Value} {o : Nat} (h : OwnR w el sz v m xs) (hfit : o + vs.length ≤ m * sz) (hpos : 0 < vs.length) (h1 : ∀ u ∈ vs, u.oneCell' = true) :
    ∃ g off cap w', v = .slice (some ⟨g, off, none⟩) m cap ∧ (∀ P : Program, (storeCells ⟨g, off + o, none⟩ vs).run P w = .ok () w') ∧ Upd w w' [.own el sz v m xs] [.own el sz v m (xs.take o ++ vs ++ xs.drop (o + vs.length))] := by
  rcases h.2 with ⟨rfl, rfl⟩ | ⟨g, off, cap, cur, fr, rfl, hg, hnc, hcm, hcs, hfr, htake⟩
  · omega
  · have hmul : m * sz ≤ cap * sz := Nat.mul_le_mul_right _ hnc
    have hst := fun P : Program => run_storeCells_fr (P := P) g (off + o) el fr vs 0 cur w hg (by omega) (fun j h2 h3 => hfr j (by omega) (by omega)) h1
    simp only [Nat.add_zero] at hst
    refine ⟨g, off, cap, _, rfl, hst, ?_⟩
    have h4 : (cur.toList.take (off + o)).length = off + o := by
      rw [List.length_take, Array.length_toList (xs := cur)]; omega
    have hlen : (xs.take o ++ vs ++ xs.drop (o + vs.length)).length = m * sz := by
      have := h.1
      simp only [List.length_append, List.length_take, List.length_drop]
      omega
    refine ⟨rfl, rfl, rfl, by simp, fun i hi hne => setRow_other w g i _ (fun h => hne _ (List.mem_singleton.2 rfl) (by simp [Chunk.fp, Value.ownBlock, h])), ⟨?_, List.pairwise_singleton _ _⟩, ?_⟩
    · intro c hc
      simp at hc
      subst hc
      refine ⟨by simpa using hlen, .inr ⟨g, off, cap, _, fr, rfl, setRow_heap w g _ _ _ _ hg, hnc, hcm, ?_, hfr, ?_⟩⟩
      · rw [List.size_toArray, List.length_append, List.length_append, h4, List.length_drop, Array.length_toList (xs := cur)]
        omega
      · show List.take (m * sz) (List.drop off (cur.toList.take (off + o) ++ vs ++ cur.toList.drop (off + o + vs.length))) = _
        rw [List.append_assoc, List.drop_append_of_le_length (by rw [h4]; omega)]
        have e1 : List.drop off (cur.toList.take (off + o)) = xs.take o := by
          rw [List.drop_take, ← htake, List.take_take]
          congr 1
          omega
        rw [e1]
        have e2 : (xs.take o).length = o := by rw [List.length_take, h.1]; omega
        have e3 : List.take (m * sz - (o + vs.length)) (cur.toList.drop (off + o + vs.length)) = xs.drop (o + vs.length) := by
          rw [← htake, List.drop_take, List.drop_drop]
          congr 2
          omega
        have e4 : m * sz = (xs.take o ++ vs).length + (m * sz - (o + vs.length)) := by
          rw [List.length_append, e2]; omega
        rw [← List.append_assoc, e4, List.take_length_add_append, e3, List.append_assoc]
    · intro c hc j hj
      simp at hc
      subst hc
      exact .inl ⟨_, List.mem_singleton.2 rfl, hj⟩
theorem flatSet {α : Type} {enc : α → List Value} {sz : Nat} (hsz : ∀ x, (enc x).length = sz) (xs : List α) (i : Nat) (hi : i < xs.length) (y : α) :
    (xs.flatMap enc).take (i * sz) ++ enc y ++ (xs.flatMap enc).drop (i * sz + (enc y).length) = (xs.set i y).flatMap enc := by
  induction xs generalizing i with
  | nil => simp at hi
  | cons x xs ih =>
    cases i with
    | zero =>
      simp only [Nat.zero_mul, List.take_zero, List.nil_append, Nat.zero_add, List.flatMap_cons, List.set_cons_zero]
      rw [hsz, ← hsz x, List.drop_left]
    | succ i =>
      simp only [List.flatMap_cons, List.set_cons_succ]
      have h1 : (i + 1) * sz = (enc x).length + i * sz := by rw [hsz, Nat.add_mul]; omega
      rw [h1, List.take_length_add_append, Nat.add_assoc, List.append_assoc, List.append_assoc, List.drop_length_add_append, ← List.append_assoc (List.take _ _), ih i (by simpa using hi)]
/-- An element of a slice of the call's own is written. -/
theorem Seq.stOwn {α : Type} [Inhabited α] {enc : α → List Value} {el et : TypeId} {sz i q : Nat} {v u : Value} {xs : List α} (z : α) (hsz : szOf P et sz = true) (hpos : 0 < sz) (hx : Look e x (.pointer (some ((sbase v).add (q * sz)))) := by repeat (first | exact Look.here | apply Look.there (hne := rfl) | exact Look.const | apply Look.mix rfl | exact Look.arg0 | apply Look.args | exact Look.func)) (hy : Look e y u := by repeat (first | exact Look.here | apply Look.there (hne := rfl) | exact Look.const | apply Look.mix rfl | exact Look.arg0 | apply Look.args | exact Look.func))
    (hH : At H i (.own el sz v xs.length (xs.flatMap enc)) := by repeat (first | exact At.z | apply At.s)) (hu : cellsL u = enc z := by rfl) (henc : ∀ x, (enc x).length = sz := by intro _; rfl) (h1 : ∀ x, ∀ u ∈ enc x, u.oneCell' = true) (hq : q < xs.length := by omega)
    (k : Seq P n ops w0 Cs rest (H.set i (.own el sz v (xs.set q z).length ((xs.set q z).flatMap enc))) e K) :
    Seq P n ops w0 Cs (⟨none, .store et x y, ty, pos, af, none⟩ :: rest) H e K := by
  refine Seq.f0 (R := fun _ H' => H' = H.set i (.own el sz v (xs.set q z).length ((xs.set q z).flatMap enc))) ?_ ?_
  · intro w hw d pos af g
    have hok : OwnR w el sz v xs.length (xs.flatMap enc) := hH.ok hw
    have hlt : q * sz + (enc z).length ≤ xs.length * sz := by
      rw [henc]
      have := Nat.mul_le_mul_right sz (show q + 1 ≤ xs.length by omega)
      rw [Nat.add_mul] at this
      omega
    obtain ⟨g', off, cap, w', rfl, hst, hup⟩ := hok.put (vs := enc z) (o := q * sz) hlt (by rw [henc]; exact hpos) (h1 z)
    rw [flatSet henc xs q hq z] at hup
    refine ⟨undef, w', _, .inr ⟨?_, rfl⟩, ?_, rfl⟩
    · have hx' := hx.eq
      have hy' := hy.eq
      simp only [sbase, addrB] at hx'
      have hs2 := hst P
      simp [execOp, hx', hy', Instr.storeAt, Instr.sureAddr, storeVar, cellsL_eq, hu, szOf_run hsz, henc, hs2]
    · have h5 := Upd.at_ hw hH hup
      have e2 : (xs.set q z).length = xs.length := List.length_set
      rw [e2]
      exact h5
  · rintro _ H' rfl
    exact k
/-- A slice of the call's own, cut: what was outside is let go. -/
theorem Upd.reslice {w0 w : World} {Cs H : List Chunk} {α : Type} {enc : α → List Value} {el : TypeId} {sz i lo hi : Nat} {v : Value} {xs : List α} (h : Upd w0 w Cs H) (hH : At H i (.own el sz v xs.length (xs.flatMap enc))) (henc : ∀ x, (enc x).length = sz) (h1 : lo ≤ hi) (h2 : hi ≤ xs.length) :
    Upd w0 w Cs (H.set i (.own el sz (subSl v lo hi sz) ((xs.drop lo).take (hi - lo)).length (((xs.drop lo).take (hi - lo)).flatMap enc))) := by
  refine h.at_ hH ?_
  have hok : OwnR w el sz v xs.length (xs.flatMap enc) := hH.ok h
  have hl : ((xs.drop lo).take (hi - lo)).length = hi - lo := by simp; omega
  have flat : ∀ (ys : List α) (a b : Nat), ((ys.drop a).take b).flatMap enc = ((ys.flatMap enc).drop (a * sz)).take (b * sz) := by
    have fl : ∀ ys : List α, (ys.flatMap enc).length = ys.length * sz := by
      intro ys
      induction ys with
      | nil => simp
      | cons y ys ih => rw [List.flatMap_cons, List.length_append, ih, henc, List.length_cons, Nat.add_mul]; omega
    have tk : ∀ (ys : List α) (b : Nat), (ys.take b).flatMap enc = (ys.flatMap enc).take (b * sz) := by
      intro ys
      induction ys with
      | nil => intro b; simp
      | cons y ys ih =>
        intro b
        cases b with
        | zero => simp
        | succ b =>
          rw [List.take_succ_cons, List.flatMap_cons, List.flatMap_cons, ih]
          have : (b + 1) * sz = (enc y).length + b * sz := by rw [henc, Nat.add_mul]; omega
          rw [this, List.take_length_add_append]
    intro ys a b
    rw [tk]
    congr 1
    induction ys generalizing a with
    | nil => simp
    | cons y ys ih =>
      cases a with
      | zero => simp
      | succ a =>
        rw [List.drop_succ_cons, List.flatMap_cons, ih]
        have : (a + 1) * sz = (enc y).length + a * sz := by rw [henc, Nat.add_mul]; omega
        rw [this, List.drop_length_add_append]
  refine ⟨rfl, rfl, rfl, Nat.le_refl _, fun _ _ _ => rfl, ⟨?_, List.pairwise_singleton _ _⟩, ?_⟩
  · intro c hc
    simp only [List.mem_singleton] at hc
    subst hc
    have hlen : (((xs.drop lo).take (hi - lo)).flatMap enc).length = (hi - lo) * sz := by
      rw [flat, List.length_take, List.length_drop, hok.1]
      have : hi * sz ≤ xs.length * sz := Nat.mul_le_mul_right _ h2
      rw [Nat.sub_mul]
      omega
    show OwnR w el sz _ _ _
    rw [hl]
    refine ⟨hlen, ?_⟩
    rcases hok.2 with ⟨rfl, h0⟩ | ⟨g, off, cap, cur, fr, rfl, hg, hnc, hcm, hcs, hfr, htake⟩
    · have : xs = [] := List.eq_nil_of_length_eq_zero h0
      subst this
      simp at h2
      subst h2
      obtain rfl : lo = 0 := by omega
      exact .inl ⟨rfl, rfl⟩
    · have hms : cap * sz = lo * sz + (cap - lo) * sz := by rw [← Nat.add_mul]; congr 1; omega
      by_cases hcl : cap = lo
      · subst hcl
        refine .inr ⟨g, off, 0, cur, fr, by simp [subSl, show hi - cap = 0 by omega], hg, by omega, by omega, by omega, by intro j h3 h4; omega, ?_⟩
        have e0 : hi - cap = 0 := by omega
        rw [e0]
        simp
      · refine .inr ⟨g, off + lo * sz, cap - lo, cur, fr, ?_, hg, by omega, by omega, by omega, by intro j h3 h4; exact hfr j (by omega) (by omega), ?_⟩
        · simp [subSl, hcl, addrB]
        · rw [flat, ← htake, List.drop_take, List.drop_drop, List.take_take]
          congr 1
          have : hi * sz ≤ xs.length * sz := Nat.mul_le_mul_right _ h2
          rw [Nat.sub_mul]
          omega
  · intro c hc j hj
    simp only [List.mem_singleton] at hc
    subst hc
    rcases hok.2 with ⟨rfl, h0⟩ | ⟨g, off, cap, cur, fr, rfl, _⟩
    · simp [Chunk.fp, subSl, Value.ownBlock] at hj
    · refine .inl ⟨_, List.mem_singleton.2 rfl, ?_⟩
      simp only [Chunk.fp, subSl] at hj ⊢
      split at hj
      · exact hj
      · simp only [Option.map_some, addrB, Value.ownBlock] at hj ⊢
        exact hj
/-- A call that is handed one piece and hands one back. -/
theorem Seq.callAt {f : FuncId} {as : List Operand} {ats : Array TypeId} {c : Chunk} {i : Nat} {R : Value → Chunk → Prop} (ht : Nat.blt t n = true := by rfl) (hs : ∀ w, Upd w0 w Cs H → Own w [c] → Spec P f (as.map (ev e)).toArray w [c] (fun v N => ∃ c', N = [c'] ∧ R v c')) (hH : At H i c := by repeat (first | exact At.z | apply At.s))
    (k : ∀ v c', R v c' → Seq P n ops w0 Cs rest (H.set i c') (upd e t v) K) :
    Seq P n ops w0 Cs (⟨some t, .call ⟨.value (.func f), as.toArray, ats⟩, ty, pos, af, none⟩ :: rest) H e K := by
  refine Seq.call ht (fun w hw => hs w hw ((hw.part ⟨H.eraseIdx i, At.perm hH⟩).own)) (F := H.eraseIdx i) (At.perm hH) ?_
  rintro v H' ⟨c', rfl, hR⟩ a w hf hw
  exact k v c' hR a w hf (hw.perm (At.set hH c'))
theorem Seq.callAt0 {f : FuncId} {as : List Operand} {ats : Array TypeId} {c : Chunk} {i : Nat} {R : Value → Chunk → Prop} (hs : ∀ w, Upd w0 w Cs H → Own w [c] → Spec P f (as.map (ev e)).toArray w [c] (fun v N => ∃ c', N = [c'] ∧ R v c')) (hH : At H i c := by repeat (first | exact At.z | apply At.s))
    (k : ∀ v c', R v c' → Seq P n ops w0 Cs rest (H.set i c') e K) :
    Seq P n ops w0 Cs (⟨none, .call ⟨.value (.func f), as.toArray, ats⟩, ty, pos, af, none⟩ :: rest) H e K := by
  refine Seq.call0 (fun w hw => hs w hw ((hw.part ⟨H.eraseIdx i, At.perm hH⟩).own)) (F := H.eraseIdx i) (At.perm hH) ?_
  rintro v H' ⟨c', rfl, hR⟩ a w hf hw
  exact k v c' hR a w hf (hw.perm (At.set hH c'))
theorem Ev.xor32 {a : Int} (hx : Look e x (.int .u32 a) := by repeat (first | exact Look.here | apply Look.there (hne := rfl) | exact Look.const | apply Look.mix rfl | exact Look.arg0 | apply Look.args | exact Look.func)) {tt : TypeId} : Ev P w0 Cs H e (.unOp .xor tt x) ty (.int .u32 (IntKind.u32.wrap ((BitVec.ofInt IntKind.u32.bits 4294967295 ^^^ BitVec.ofInt IntKind.u32.bits a).toNat))) := by
  intro w _ d pos af g
  replace hx := hx.eq
  have h1 : ((-1 : Int) % 2 ^ IntKind.u32.bits).toNat = 4294967295 % 2 ^ IntKind.u32.bits := by decide
  simp [execOp, hx, Op.unary, Op.intBits, IntKind.signed, IntKind.max, h1]
theorem Ev.addN {m c : Nat} {tx ty' : TypeId} (hx : Look e x (.int .i64 (m : Int)) := by repeat (first | exact Look.here | apply Look.there (hne := rfl) | exact Look.const | apply Look.mix rfl | exact Look.arg0 | apply Look.args | exact Look.func)) (hy : Look e y (.int .i64 (c : Int)) := by repeat (first | exact Look.here | apply Look.there (hne := rfl) | exact Look.const | apply Look.mix rfl | exact Look.arg0 | apply Look.args | exact Look.func)) (h : m + c ≤ 9223372036854775807 := by omega) : Ev P w0 Cs H e (.binOp .add tx x y ty') ty (.int .i64 ((m + c : Nat) : Int)) := by
  have h2 := Ev.add (P := P) (w0 := w0) (Cs := Cs) (H := H) (ty := ty) (tx := tx) (ty' := ty') hx hy (by omega)
  rw [show ((m + c : Nat) : Int) = (m : Int) + (c : Int) by omega]
  exact h2
theorem Ev.mulN {m c : Nat} {tx ty' : TypeId} (hx : Look e x (.int .i64 (c : Int)) := by repeat (first | exact Look.here | apply Look.there (hne := rfl) | exact Look.const | apply Look.mix rfl | exact Look.arg0 | apply Look.args | exact Look.func)) (hy : Look e y (.int .i64 (m : Int)) := by repeat (first | exact Look.here | apply Look.there (hne := rfl) | exact Look.const | apply Look.mix rfl | exact Look.arg0 | apply Look.args | exact Look.func)) (h : c * m ≤ 9223372036854775807 := by omega) : Ev P w0 Cs H e (.binOp .mul tx x y ty') ty (.int .i64 ((c * m : Nat) : Int)) := by
  have h1 : ((c * m : Nat) : Int) = (c : Int) * (m : Int) := by simp
  have h2 := Ev.mul (P := P) (w0 := w0) (Cs := Cs) (H := H) (ty := ty) (tx := tx) (ty' := ty') hx hy (by rw [← h1]; omega)
  rw [h1]
  exact h2
theorem Ev.capSl {A : Option Addr} {m c sz : Nat} {tt el : TypeId} (ht : slcOf P tt el sz = true) (hx : Look e x (.slice A m c) := by repeat (first | exact Look.here | apply Look.there (hne := rfl) | exact Look.const | apply Look.mix rfl | exact Look.arg0 | apply Look.args | exact Look.func)) : Ev P w0 Cs H e (.call ⟨.builtin .cap, #[x], #[tt]⟩) ty (.int .i64 (c : Int)) := by
  intro w _ d pos af g
  replace hx := hx.eq
  simp [execOp, resolve, invoke, builtin, hx, Builtin.cap_, run_underlying (slcOf_und ht).1, goInt]
/-- A slice cut at its end alone, within its room. -/
theorem Ev.cutHi {A : Option Addr} {m c sz : Nat} {h : Nat} {tt el : TypeId} {k : IntKind} (hs : slcOf P tt el sz = true) (hx : Look e x (.slice A m c) := by repeat (first | exact Look.here | apply Look.there (hne := rfl) | exact Look.const | apply Look.mix rfl | exact Look.arg0 | apply Look.args | exact Look.func)) (hy : Look e y (.int k (h : Int)) := by repeat (first | exact Look.here | apply Look.there (hne := rfl) | exact Look.const | apply Look.mix rfl | exact Look.arg0 | apply Look.args | exact Look.func)) (hh : h ≤ c := by omega) : Ev P w0 Cs H e (.slice tt x none (some y) none) ty (.slice A h c) := by
  intro w _ d pos af g
  replace hx := hx.eq
  replace hy := hy.eq
  obtain ⟨hu, hz⟩ := slcOf_und hs
  have g1 : ¬ c < h := by omega
  cases A with
  | none => simp [execOp, hx, hy, Instr.sliceAt, Instr.slice, run_underlying hu, Instr.sliceBounds, Instr.sliceBound, asIntOf, hh, szOf_run hz]
  | some a =>
    have e1 : a.add 0 = a := Addr.add_zero a
    simp [execOp, hx, hy, Instr.sliceAt, Instr.slice, run_underlying hu, Instr.sliceBounds, Instr.sliceBound, asIntOf, hh, szOf_run hz, e1]
/-- 'append(nil, make(n)...)': n at least one: a row of the call's own. -/
theorem Seq.growNil {ts tn el : TypeId} {size bytes m : Nat} {k kn : IntKind} (ht : Nat.blt t n = true := by rfl) (hsl : slcOf P ts el size = true) (he : elOf P el size bytes = true) (hi : intOfT P tn kn = true)
    (hx : Look e x (.slice none 0 0) := by repeat (first | exact Look.here | apply Look.there (hne := rfl) | exact Look.const | apply Look.mix rfl | exact Look.arg0 | apply Look.args | exact Look.func)) (hy : Look e y (.int k (m : Int)) := by repeat (first | exact Look.here | apply Look.there (hne := rfl) | exact Look.const | apply Look.mix rfl | exact Look.arg0 | apply Look.args | exact Look.func)) (h0 : 0 < m := by omega) (h63 : m ≤ 4611686018427387904 := by omega) (hb : m * bytes ≤ 140737488355328 := by omega)
    (kk : ∀ b c zs, Seq P n ops w0 Cs rest (.own el size (.slice (some ⟨b, 0, none⟩) m c) m zs :: H) (upd e t (.slice (some ⟨b, 0, none⟩) m c)) K) :
    Seq P n ops w0 Cs (⟨some t, .call ⟨.builtin .append, #[x, y], #[ts, tn]⟩, ty, pos, af, none⟩ :: rest) H e K := by
  refine Seq.f ht (R := fun v H' => ∃ b c zs, v = .slice (some ⟨b, 0, none⟩) m c ∧ H' = .own el size (.slice (some ⟨b, 0, none⟩) m c) m zs :: H) ?_ ?_
  · intro w hw d pos af g
    obtain ⟨i, z, hi2, rfl, rfl, hpos, hz, hzs⟩ := elOf_parts he
    have hr := Lib.run_append_nil_zeros (P := P) w ts tn ty el i z k kn (slcOf_und hsl).1 (intOfT_und hi) hi2 hz m h0 hpos (by omega) (by omega)
    have hge := grownCap_ge w m 0 el
    have hcm : grownCap w m 0 el ≤ maxLen := grownCap_le_maxLen w m 0 el (by simp only [maxLen]; omega)
    refine ⟨.slice (some ⟨w.heap.size, 0, none⟩) m (grownCap w m 0 el), w.drew.alloc (.cells (Builtin.zeroCells z.cells m ++ Builtin.zeroCells z.cells (grownCap w m 0 el - m)) el), .own el i.size (.slice (some ⟨w.heap.size, 0, none⟩) m (grownCap w m 0 el)) m (Builtin.zeroCells z.cells m).toList :: H, .inl (by simp [execOp, resolve, invoke, builtin, hx.eq, hy.eq, hr]), ?_, _, _, _, rfl, rfl⟩
    have h2 : Upd w0 (w.drew.alloc (.cells (Builtin.zeroCells z.cells m ++ Builtin.zeroCells z.cells (grownCap w m 0 el - m)) el)) Cs (.blk w.heap.size _ :: H) := hw.drew.alloc _
    refine (h2.at_ At.z (k := ?_))
    have ho := h2.own.ok _ (List.mem_cons_self ..)
    refine ⟨rfl, rfl, rfl, Nat.le_refl _, fun _ _ _ => rfl, ⟨?_, List.pairwise_singleton _ _⟩, ?_⟩
    · intro c hc
      simp only [List.mem_singleton] at hc
      subst hc
      have hl : (Builtin.zeroCells z.cells m).toList.length = m * i.size := by rw [Array.length_toList, size_zeroCells, hzs]
      refine ⟨hl, .inr ⟨w.heap.size, 0, _, _, _, rfl, ho, hge, hcm, ?_, by intro j _ _ h; simp at h, ?_⟩⟩
      · rw [Array.size_append, size_zeroCells, size_zeroCells, hzs, ← Nat.add_mul, Nat.zero_add]
        exact Nat.mul_le_mul_right _ (by omega)
      · rw [Array.toList_append, List.drop_zero, ← hl]
        exact List.take_left
    · intro c hc j hj
      simp only [List.mem_singleton] at hc
      subst hc
      simp [Chunk.fp, Value.ownBlock] at hj
      exact .inl ⟨_, List.mem_singleton.2 rfl, hj.symm⟩
  · rintro v H' ⟨b, c, zs, rfl, rfl⟩
    exact kk b c zs
/-- A slice of the call's own, cut to nothing: its room stays. -/
theorem Upd.own0 {w0 w : World} {Cs H : List Chunk} {el : TypeId} {sz i m b o c : Nat} {xs : List Value} (h : Upd w0 w Cs H) (hH : At H i (.own el sz (.slice (some ⟨b, o, none⟩) m c) m xs)) : Upd w0 w Cs (H.set i (.own el sz (.slice (some ⟨b, o, none⟩) 0 c) 0 [])) := by
  refine h.at_ hH ?_
  have hok : OwnR w el sz (.slice (some ⟨b, o, none⟩) m c) m xs := hH.ok h
  refine ⟨rfl, rfl, rfl, Nat.le_refl _, fun _ _ _ => rfl, ⟨?_, List.pairwise_singleton _ _⟩, ?_⟩
  · intro d hd
    simp only [List.mem_singleton] at hd
    subst hd
    rcases hok.2 with ⟨h0, _⟩ | ⟨g, off, cap, cur, fr, he, hg, hnc, hcm, hcs, hfr, htake⟩
    · cases h0
    · cases he
      exact ⟨by simp, .inr ⟨b, o, c, cur, fr, rfl, hg, by omega, hcm, hcs, hfr, by simp⟩⟩
  · intro d hd j hj
    simp only [List.mem_singleton] at hd
    subst hd
    exact .inl ⟨_, List.mem_singleton.2 rfl, hj⟩
end
end Go.Rx
