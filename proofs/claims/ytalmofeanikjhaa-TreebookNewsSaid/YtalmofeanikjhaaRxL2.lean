/- The rule layer of these proofs. -/
import Derived.Test.YtalmofeanikjhaaRxL1
import Derived.RangeFuncNested
import Derived.RangeFuncCalls
import Derived.RangeFuncLeaves
import Derived.Sort.LoopGhostIn
import Derived.RangeFuncBound
set_option linter.unusedVariables false
set_option linter.unusedSimpArgs false
/- The rule layer: three operations that may come up in a drawn region; pieces found one behind the other. -/
namespace Go.Rx
open Go Go.RowKit
set_option linter.unusedVariables false
set_option linter.unusedSimpArgs false
section
variable {P : Program} {n c : Nat} {ops : Array Oper} {w0 : World} {Cs H0 H : List Chunk} {e : Env} {K : Env → List Chunk → Prop} {fuel : Nat} {listed : Array Bool}
theorem AnyC.three (i j k : Nat) {o o' o'' : Oper} (hi : ops[i]? = some o) (hj : ops[j]? = some o') (hk : ops[k]? = some o'') (hr : Region.ready .any ops listed = [i, j, k])
    (h : Seq P n ops w0 Cs [o] H e (fun e' H' => Part H0 H' ∧ AnyC c P n ops w0 Cs H0 fuel (listed.setIfInBounds i true) H' e' K))
    (h' : Seq P n ops w0 Cs [o'] H e (fun e' H' => Part H0 H' ∧ AnyC c P n ops w0 Cs H0 fuel (listed.setIfInBounds j true) H' e' K))
    (h'' : Seq P n ops w0 Cs [o''] H e (fun e' H' => Part H0 H' ∧ AnyC c P n ops w0 Cs H0 fuel (listed.setIfInBounds k true) H' e' K)) : AnyC c P n ops w0 Cs H0 (fuel + 1) listed H e K := by
  intro hp
  refine ⟨fun h0 => (by rw [hr] at h0; cases h0), fun m hm a w hf hw => ?_⟩
  rw [hr] at hm
  have hm' : m = i ∨ m = j ∨ m = k := by simpa using hm
  rcases hm' with rfl | rfl | rfl
  · exact AnyV.at_ hi h hf hw
  · exact AnyV.at_ hj h' hf hw
  · exact AnyV.at_ hk h'' hf hw
end
theorem JC.cutE {x y : Code} {n : Nat} {P : Program} {w0 : World} {Cs H : List Chunk} {e : Env} {Q : Exit → Env → List Chunk → Prop} (M : Env → Env → List Chunk → Prop) (h : JC P n w0 Cs x H e (thenQ (M e) Q)) (k : ∀ e' H', M e e' H' → JC P n w0 Cs y H' e' Q) : JC P n w0 Cs (.seq x y) H e Q := JC.cut (M e) h k
theorem Perm.at {c : Chunk} {G F H : List Chunk} {i : Nat} (h : At H i c) (k : (G ++ F).Perm (H.eraseIdx i)) : ((c :: G) ++ F).Perm H := (k.cons c).trans h.perm
theorem Perm.none (F : List Chunk) : ([] ++ F).Perm F := List.Perm.refl _
theorem flatSetF {α : Type} [Inhabited α] {enc : α → List Value} {sz : Nat} (hsz : ∀ x, (enc x).length = sz) (xs : List α) (i : Nat) (hi : i < xs.length) (y : α) (off : Nat) (vs : List Value) (hfit : off + vs.length ≤ sz)
    (hy : enc y = (enc xs[i]!).take off ++ vs ++ (enc xs[i]!).drop (off + vs.length)) :
    (xs.flatMap enc).take (i * sz + off) ++ vs ++ (xs.flatMap enc).drop (i * sz + off + vs.length) = (xs.set i y).flatMap enc := by
  induction xs generalizing i with
  | nil => simp at hi
  | cons x xs ih =>
    cases i with
    | zero =>
      have hy' : enc y = (enc x).take off ++ vs ++ (enc x).drop (off + vs.length) := hy
      simp only [Nat.zero_mul, Nat.zero_add, List.flatMap_cons, List.set_cons_zero]
      rw [hy', List.take_append_of_le_length (by rw [hsz]; omega), List.drop_append_of_le_length (by rw [hsz]; omega)]
      simp only [List.append_assoc]
    | succ i =>
      simp only [List.flatMap_cons, List.set_cons_succ]
      have h1 : (i + 1) * sz = (enc x).length + i * sz := by rw [hsz, Nat.add_mul]; omega
      have hy' : enc y = (enc xs[i]!).take off ++ vs ++ (enc xs[i]!).drop (off + vs.length) := by
        rw [hy]; simp
      rw [h1, Nat.add_assoc, Nat.add_assoc, List.take_length_add_append, List.append_assoc, List.append_assoc, List.drop_length_add_append, ← List.append_assoc (List.take _ _), ih i (by simpa using hi) hy']
theorem Seq.stOwnF {P : Program} {n : Nat} {ops : Array Oper} {w0 : World} {Cs H : List Chunk} {e : Env} {K : Env → List Chunk → Prop} {rest : List Oper} {ty : TypeId} {pos : String} {af : Array Edge} {x y : Operand} {α : Type} [Inhabited α] {enc : α → List Value} {el et : TypeId} {sz i q off m : Nat} {v u : Value} {xs : List α} (z : α) (hsz : szOf P et m = true) (hx : Look e x (.pointer (some (((sbase v).add (q * sz)).add off))) := by repeat (first | exact Look.here | apply Look.there (hne := rfl) | exact Look.const | apply Look.mix rfl | exact Look.arg0 | apply Look.args | exact Look.func)) (hy : Look e y u := by repeat (first | exact Look.here | apply Look.there (hne := rfl) | exact Look.const | apply Look.mix rfl | exact Look.arg0 | apply Look.args | exact Look.func))
    (hH : At H i (.own el sz v xs.length (xs.flatMap enc)) := by repeat (first | exact At.z | apply At.s)) (vs : List Value) (hu : cellsL u = vs := by rfl) (hm : vs.length = m := by rfl) (hpos : 0 < vs.length := by decide) (henc : ∀ x, (enc x).length = sz := by intro _; rfl) (h1 : ∀ u ∈ vs, u.oneCell' = true) (hq : q < xs.length := by omega) (hfit : off + vs.length ≤ sz := by decide)
    (hz : enc z = (enc xs[q]!).take off ++ vs ++ (enc xs[q]!).drop (off + vs.length))
    (k : Seq P n ops w0 Cs rest (H.set i (.own el sz v (xs.set q z).length ((xs.set q z).flatMap enc))) e K) :
    Seq P n ops w0 Cs (⟨none, .store et x y, ty, pos, af, none⟩ :: rest) H e K := by
  refine Seq.f0 (R := fun _ H' => H' = H.set i (.own el sz v (xs.set q z).length ((xs.set q z).flatMap enc))) ?_ ?_
  · intro w hw d pos af g
    have hok : OwnR w el sz v xs.length (xs.flatMap enc) := hH.ok hw
    have hlt : q * sz + off + vs.length ≤ xs.length * sz := by
      have := Nat.mul_le_mul_right sz (show q + 1 ≤ xs.length by omega)
      rw [Nat.add_mul] at this
      omega
    obtain ⟨g', of', cap, w', rfl, hst, hup⟩ := hok.put (vs := vs) (o := q * sz + off) hlt hpos h1
    rw [flatSetF henc xs q hq z off vs hfit hz] at hup
    refine ⟨undef, w', _, .inr ⟨?_, rfl⟩, ?_, rfl⟩
    · have hx' := hx.eq
      have hy' := hy.eq
      simp only [sbase, addrB, Nat.add_assoc] at hx'
      have hs2 := hst P
      simp [execOp, hx', hy', Instr.storeAt, Instr.sureAddr, storeVar, cellsL_eq, hu, szOf_run hsz, hm, hs2]
    · have h5 := Upd.at_ hw hH hup
      have e2 : (xs.set q z).length = xs.length := List.length_set
      rw [e2]
      exact h5
  · rintro _ H' rfl
    exact k
end Go.Rx
/- The rule layer: the way down a tree in memory. -/
namespace Go.Rx
open Go Go.RowKit
set_option linter.unusedVariables false
set_option linter.unusedSimpArgs false
def Fr.cells (f : Fr) (p : Option Addr) : List Value := [.int .i64 f.k, f.v, .int .i64 (f.h : Int), .int .i64 (f.n : Int), if f.s then f.t.ptr else .pointer p, if f.s then .pointer p else f.t.ptr]
def Fr.hole (f : Fr) : Nat := if f.s then 5 else 4
abbrev frC (T : TypeId) (f : Fr) (p : Option Addr) : Chunk := .box f.a T (f.cells p)
def Fr.adr (f : Fr) : Option Addr := some ⟨f.a, 0, none⟩
def ctxC (T : TypeId) : List Fr → Option Addr → Chunk
  | [], _ => .pk []
  | f :: fs, p => .pk [frC T f p, treeC T f.t, ctxC T fs f.adr]
def rootP : List Fr → Option Addr → Option Addr
  | [], p => p
  | f :: fs, _ => rootP fs f.adr
def staleC (T : TypeId) (h n : Nat) : Tr → Chunk
  | .nil => .pk []
  | .node a k v l r => .pk [nodeC T a k v h n l.ptr r.ptr, treeC T l, treeC T r]
section
variable {w0 w : World} {Cs G H : List Chunk} {T : TypeId}
end
def Fr.found (f : Fr) (x : Tr) : Prop := f.h = 1 + (if f.s then max f.t.high x.high else max x.high f.t.high) ∧ f.n = 1 + (if f.s then f.t.size + x.size else x.size + f.t.size)
/-! ### the links -/
def Fr.link (f : Fr) : Value := .pointer (some ⟨f.a, f.hole, none⟩)
def Lk (top : Value) : List Fr → List Value → Prop
  | [], ps => ps[0]? = some top
  | f :: fs, ps => ps[fs.length + 1]? = some f.link ∧ Lk top fs ps
theorem Lk.set {top : Value} {u : Value} {j : Nat} : ∀ {fs : List Fr} {ps : List Value}, Lk top fs ps → fs.length < j → Lk top fs (ps.set j u)
  | [], ps, h, hj => by
    show (ps.set j u)[0]? = some top
    have hj' : 0 < j := hj
    rw [List.getElem?_set_ne (by omega)]
    exact h
  | f :: fs, ps, h, hj => by
    refine ⟨?_, Lk.set h.2 (by simp at hj; omega)⟩
    rw [List.getElem?_set_ne (by simp at hj; omega)]
    exact h.1
def linkA (tb k : Nat) : List Fr → Addr
  | [] => ⟨tb, k, none⟩
  | f :: _ => ⟨f.a, f.hole, none⟩
theorem Lk.cur {tb k : Nat} {fs : List Fr} {ps : List Value} (h : Lk (.pointer (some ⟨tb, k, none⟩)) fs ps) : ps[fs.length]? = some (.pointer (some (linkA tb k fs))) := by
  cases fs with
  | nil => exact h
  | cons f fs => exact h.1
theorem Own.cellOf {w : World} {L : List Chunk} {b off : Nat} {T : TypeId} {cs : List Value} {v : Value} (h : Own w L) (hm : Chunk.box b T cs ∈ L) (hv : cs[off]? = some v) : Cell w [] ⟨b, off, none⟩ v := by
  obtain ⟨i, hi⟩ := List.getElem?_of_mem hm
  exact box_cell (Upd.refl h) ⟨hi⟩ hv
def Tr.key : Tr → Int
  | .nil => 0
  | .node _ k _ _ _ => k
def Tr.blk : Tr → Nat
  | .nil => 0
  | .node a _ _ _ _ => a
def stepFr (a : Nat) (k : Int) (v : Value) (l r : Tr) (key : Int) : Fr := if k < key then ⟨true, a, k, v, l, 1 + max l.high r.high, 1 + l.size + r.size⟩ else ⟨false, a, k, v, r, 1 + max l.high r.high, 1 + l.size + r.size⟩
def stepTr (k : Int) (l r : Tr) (key : Int) : Tr := if k < key then r else l
end Go.Rx
/- A sorted tree that stays flat: a key taken out (plain), and the way cut in two. -/
namespace Go.Rx
open Go Go.RowKit
set_option linter.unusedVariables false
set_option linter.unusedSimpArgs false
theorem Lk.swap {top : Value} {f g : Fr} (hl : f.link = g.link) : ∀ {ms gs : List Fr} {ps : List Value}, Lk top (ms ++ f :: gs) ps → Lk top (ms ++ g :: gs) ps
  | [], gs, ps, h => ⟨by rw [← hl]; exact h.1, h.2⟩
  | m :: ms, gs, ps, h => by
    refine ⟨?_, Lk.swap hl h.2⟩
    have e : (ms ++ f :: gs).length = (ms ++ g :: gs).length := by simp
    show ps[(ms ++ g :: gs).length + 1]? = some m.link
    rw [← e]
    exact h.1
section
variable {w0 w : World} {Cs G H : List Chunk} {T : TypeId}
end
end Go.Rx
/- The rule layer: maps of the call's own, from which keys are deleted, too: as a list of keys and values. -/
namespace Go.Rx
open Go Go.RowKit
set_option linter.unusedVariables false
set_option linter.unusedSimpArgs false
section
variable {κ : Type} [DecidableEq κ]
def kvs (es : List MapEntry) : List (Value × Value) := es.map fun e => (e.key, e.val)
def encs (ke : κ → Value) (as : List (κ × Value)) : List (Value × Value) := as.map fun p => (ke p.1, p.2)
def adel : List (κ × Value) → κ → List (κ × Value)
  | [], _ => []
  | (a, x) :: r, k => if k = a then r else (a, x) :: adel r k
def mqA (b : Nat) (ke : κ → Value) (as : List (κ × Value)) : Asn where
  fp i := i = b
  ok w := ∃ (es : List MapEntry) (c : Nat), w.heap[b]? = some (.map es.toArray c) ∧ kvs es = encs ke as
  stable := fun {_ _} h ho => by
    obtain ⟨es, c, h1, h2⟩ := ho
    exact ⟨es, c, (h b rfl).trans h1, h2⟩
  live := fun {_ _} ho hi => by
    obtain ⟨es, c, h1, h2⟩ := ho
    cases hi
    exact (Array.getElem?_eq_some_iff.1 h1).1
abbrev Chunk.mq (b : Nat) (ke : κ → Value) (as : List (κ × Value)) : Chunk := .any (mqA b ke as)
theorem findNow_kvs {d : TypeDesc} {ke : κ → Value} (hk : KeyEnc d ke) (k : κ) : ∀ (as : List (κ × Value)) (es : List MapEntry) (i : Nat), kvs es = encs ke as → Instr.findNow d (ke k) es i = some (afind as k i)
  | [], [], i, _ => rfl
  | [], e :: es, i, h => by simp [kvs, encs] at h
  | p :: as, [], i, h => by simp [kvs, encs] at h
  | (a, v) :: as, e :: es, i, h => by
    simp only [kvs, encs, List.map_cons, List.cons.injEq, Prod.mk.injEq] at h
    obtain ⟨⟨h1, h2⟩, h3⟩ := h
    simp only [Instr.findNow, h1, h2, hk.same, afind]
    by_cases hc : k = a
    · simp [hc]
    · simp only [hc, decide_false, if_false]
      exact findNow_kvs hk k as es (i + 1) h3
theorem kvs_push {ke : κ → Value} {as : List (κ × Value)} {k : κ} {i : Nat} (h : afind as k i = none) {es : List MapEntry} (he : kvs es = encs ke as) (v : Value) (c : Nat) : kvs (es ++ [{ key := ke k, val := v, born := c }]) = encs ke (aput as k v) := by
  have key : ∀ (as : List (κ × Value)) (i : Nat), afind as k i = none → encs ke (aput as k v) = encs ke as ++ [(ke k, v)] := by
    intro as
    induction as with
    | nil => intro i _; rfl
    | cons p r ih =>
      obtain ⟨a, x⟩ := p
      intro i h
      simp only [afind] at h
      split at h
      · cases h
      · next hne =>
        simp only [aput, if_neg hne]
        show (ke a, x) :: encs ke (aput r k v) = (ke a, x) :: (encs ke r ++ [(ke k, v)])
        rw [ih _ h]
  rw [key as i h, ← he]
  simp [kvs]
theorem kvs_modify {ke : κ → Value} {k : κ} {v : Value} : ∀ {as : List (κ × Value)} {i m : Nat} {v0 : Value} {es : List MapEntry}, afind as k i = some (m, v0) → kvs es = encs ke as →
    i ≤ m ∧ kvs (es.modify (m - i) fun e => { e with key := ke k, val := v }) = encs ke (aput as k v) ∧ ((es[m - i]?).map (·.key)) = some (ke k)
  | [], _, _, _, _, h, _ => by simp [afind] at h
  | p :: as, _, _, _, [], _, h => by simp [kvs, encs] at h
  | (a, x) :: as, i, m, v0, e :: es, h, he => by
    simp only [kvs, encs, List.map_cons, List.cons.injEq, Prod.mk.injEq] at he
    obtain ⟨⟨h1, h2⟩, h3⟩ := he
    simp only [afind] at h
    split at h
    · next hc =>
      simp at h
      obtain ⟨rfl, rfl⟩ := h
      subst hc
      refine ⟨Nat.le_refl _, ?_, by simp [h1]⟩
      simp [aput, kvs, encs, h3]
    · next hne =>
      obtain ⟨q1, q2, q3⟩ := kvs_modify (v := v) h h3
      have e1 : m - i = (m - (i + 1)) + 1 := by omega
      rw [e1]
      refine ⟨by omega, ?_, by simpa using q3⟩
      simp only [aput, if_neg hne, List.modify_succ_cons]
      show (e.key, e.val) :: kvs _ = (ke a, x) :: encs ke _
      rw [q2, h1, h2]
variable {P : Program} {n : Nat} {ops : Array Oper} {w0 : World} {Cs H : List Chunk} {e : Env} {K : Env → List Chunk → Prop} {rest : List Oper}
  {t : Nat} {ty : TypeId} {pos : String} {af : Array Edge} {x y u : Operand} {d : TypeDesc} {ke : κ → Value}
theorem run_lookupQ {mt kt et : TypeId} {b : Nat} {as : List (κ × Value)} {es : List MapEntry} {c : Nat} {k : κ} {z : Value} {w : World} (hm : mapOf P mt kt et d) (hk : KeyEnc d ke) (hz : zeroOf P et = some z) (hb : w.heap[b]? = some (.map es.toArray c)) (he : kvs es = encs ke as) (ok : Bool) :
    (Instr.lookup mt (.map (some b)) (ke k) ok).run P w = .ok (if ok then .tuple #[(aget as k).getD z, .bool (aget as k).isSome] else (aget as k).getD z) w := by
  unfold Instr.lookup
  have hf := findNow_kvs hk k as es 0 he
  have h1 : ∀ em, (Instr.checkKey em 10000 kt (ke k)).run P w = .ok () w := fun em => MapKept.run_checkKey hm.2 (hk.key k) em 9999
  have h2 := MapKept.run_findKey (w := w) hm.2 hf
  have h3 := afind_get as k 0
  have hzz : (zeroValue et).run P w = .ok z w := by
    unfold zeroOf at hz
    cases hi : P.info? et with
    | none => simp [hi] at hz
    | some i =>
      simp [hi] at hz
      simp [zeroValue, typeInfo, hi, hz]
  cases ha : afind as k 0 with
  | none =>
    rw [ha] at h2 h3
    have h4 : aget as k = none := h3.symm
    simp only [h4]
    cases ok <;> simp [run_underlying hm.1, MapKept.run_getObj_map hb, h1, h2, hzz, Result.andThen]
  | some p =>
    rw [ha] at h2 h3
    have h4 : aget as k = some p.2 := h3.symm
    simp only [h4]
    cases ok <;> simp [run_underlying hm.1, MapKept.run_getObj_map hb, h1, h2, hzz, Result.andThen]
theorem Ev.qGet {mt kt et : TypeId} {b i : Nat} {as : List (κ × Value)} {k : κ} {z : Value} (hm : mapOf P mt kt et d) (hk : KeyEnc d ke) (hz : zeroOf P et = some z) (hx : Look e x (.map (some b)) := by repeat (first | exact Look.here | apply Look.there (hne := rfl) | exact Look.const | apply Look.mix rfl | exact Look.arg0 | apply Look.args | exact Look.func)) (hy : Look e y (ke k) := by repeat (first | exact Look.here | apply Look.there (hne := rfl) | exact Look.const | apply Look.mix rfl | exact Look.arg0 | apply Look.args | exact Look.func)) (hH : At H i (.mq b ke as) := by repeat (first | exact At.z | apply At.s)) :
    Ev P w0 Cs H e (.lookup mt x y false) ty ((aget as k).getD z) := by
  intro w hw dd pos af g
  obtain ⟨es, c, hb, he⟩ : (mqA b ke as).ok w := hH.ok hw
  simp [execOp, hx.eq, hy.eq, run_lookupQ hm hk hz hb he]
theorem Ev.qGetOk {mt kt et : TypeId} {b i : Nat} {as : List (κ × Value)} {k : κ} {z : Value} (hm : mapOf P mt kt et d) (hk : KeyEnc d ke) (hz : zeroOf P et = some z) (hx : Look e x (.map (some b)) := by repeat (first | exact Look.here | apply Look.there (hne := rfl) | exact Look.const | apply Look.mix rfl | exact Look.arg0 | apply Look.args | exact Look.func)) (hy : Look e y (ke k) := by repeat (first | exact Look.here | apply Look.there (hne := rfl) | exact Look.const | apply Look.mix rfl | exact Look.arg0 | apply Look.args | exact Look.func)) (hH : At H i (.mq b ke as) := by repeat (first | exact At.z | apply At.s)) :
    Ev P w0 Cs H e (.lookup mt x y true) ty (.tuple #[(aget as k).getD z, .bool (aget as k).isSome]) := by
  intro w hw dd pos af g
  obtain ⟨es, c, hb, he⟩ : (mqA b ke as).ok w := hH.ok hw
  simp [execOp, hx.eq, hy.eq, run_lookupQ hm hk hz hb he]
omit [DecidableEq κ] in
theorem Ev.qLen {mt kt et : TypeId} {b i : Nat} {as : List (κ × Value)} (hm : mapOf P mt kt et d) (hx : Look e x (.map (some b)) := by repeat (first | exact Look.here | apply Look.there (hne := rfl) | exact Look.const | apply Look.mix rfl | exact Look.arg0 | apply Look.args | exact Look.func)) (hH : At H i (.mq b ke as) := by repeat (first | exact At.z | apply At.s)) :
    Ev P w0 Cs H e (.call ⟨.builtin .len, #[x], #[mt]⟩) ty (.int .i64 (as.length : Int)) := by
  intro w hw dd pos af g
  obtain ⟨es, c, hb, he⟩ : (mqA b ke as).ok w := hH.ok hw
  have hl : es.length = as.length := by have := congrArg List.length he; simpa [kvs, encs] using this
  simp [execOp, resolve, invoke, builtin, hx.eq, Builtin.len_, run_underlying hm.1, MapKept.run_getObj_map hb, Result.andThen, goInt, hl]
omit [DecidableEq κ] in
theorem Seq.mkQ {mt : TypeId} (ke : κ → Value) (ht : Nat.blt t n = true := by rfl)
    (k : ∀ b, Seq P n ops w0 Cs rest (.mq b ke ([] : List (κ × Value)) :: H) (upd e t (.map (some b))) K) :
    Seq P n ops w0 Cs (⟨some t, .makeMap mt none, ty, pos, af, none⟩ :: rest) H e K := by
  refine Seq.mkMap ke ht (fun b => ?_)
  refine Seq.re (fun w h => ?_) (k b)
  have h2 : Upd w w [.blk b (.map #[] 0)] [.mq b ke ([] : List (κ × Value))] := by
    have ho : w.heap[b]? = some (.map #[] 0) := h.own.ok _ List.mem_cons_self
    refine ⟨rfl, rfl, rfl, Nat.le_refl _, fun _ _ _ => rfl, ⟨?_, List.pairwise_singleton _ _⟩, ?_⟩
    · intro c hc
      rw [List.mem_singleton.1 hc]
      exact ⟨[], 0, ho, rfl⟩
    · intro c hc i hi
      rw [List.mem_singleton.1 hc] at hi
      exact .inl ⟨_, List.mem_singleton.2 rfl, hi⟩
  exact Upd.step (Gs := [.blk b (.map #[] 0)]) h h2
omit [DecidableEq κ] in
theorem Upd.qobj {w : World} {b : Nat} {as as' : List (κ × Value)} {es : List MapEntry} {c c' : Nat} {es' : List MapEntry} (hb : w.heap[b]? = some (.map es.toArray c)) (he : kvs es' = encs ke as') :
    Upd w { w with heap := w.heap.setIfInBounds b (.map es'.toArray c') } [.mq b ke as] [.mq b ke as'] := by
  have h := Upd.obj (w := w) (o' := .map es'.toArray c') hb
  refine ⟨h.os, h.tape, h.output, h.size, fun i hi hn => h.keep i hi (fun d hd hdi => ?_), ⟨?_, List.pairwise_singleton _ _⟩, ?_⟩
  · rw [List.mem_singleton.1 hd] at hdi
    exact hn _ (List.mem_singleton.2 rfl) hdi
  · intro d hd
    rw [List.mem_singleton.1 hd]
    exact ⟨es', c', (MapKept.heap_set hb).1, he⟩
  · intro d hd i hi
    rw [List.mem_singleton.1 hd] at hi
    exact .inl ⟨_, List.mem_singleton.2 rfl, hi⟩
theorem Seq.qPut {mt kt et : TypeId} {b i : Nat} {as as' : List (κ × Value)} {k : κ} {v : Value} (hm : mapOf P mt kt et d) (hk : KeyEnc d ke) (hx : Look e x (.map (some b)) := by repeat (first | exact Look.here | apply Look.there (hne := rfl) | exact Look.const | apply Look.mix rfl | exact Look.arg0 | apply Look.args | exact Look.func)) (hy : Look e y (ke k) := by repeat (first | exact Look.here | apply Look.there (hne := rfl) | exact Look.const | apply Look.mix rfl | exact Look.arg0 | apply Look.args | exact Look.func)) (hu : Look e u v := by repeat (first | exact Look.here | apply Look.there (hne := rfl) | exact Look.const | apply Look.mix rfl | exact Look.arg0 | apply Look.args | exact Look.func)) (hH : At H i (.mq b ke as) := by repeat (first | exact At.z | apply At.s)) (has : aput as k v = as' := by rfl)
    (kk : Seq P n ops w0 Cs rest (H.set i (.mq b ke as')) e K) :
    Seq P n ops w0 Cs (⟨none, .mapUpdate mt x y u, ty, pos, af, none⟩ :: rest) H e K := by
  subst has
  refine Seq.f0 (R := fun _ H' => H' = H.set i (.mq b ke (aput as k v))) ?_ ?_
  · intro w hw dd pos af g
    obtain ⟨es, c, hb, he⟩ : (mqA b ke as).ok w := hH.ok hw
    have hf := findNow_kvs hk k as es 0 he
    have h1 : (Instr.checkKey false 10000 kt (ke k)).run P w = .ok () w := MapKept.run_checkKey hm.2 (hk.key k) false 9999
    have h2 := MapKept.run_findKey (w := w) hm.2 hf
    cases ha : afind as k 0 with
    | none =>
      rw [ha] at h2
      have q := kvs_push ha he v c
      refine ⟨undef, _, _, .inr ⟨?_, rfl⟩, Upd.at_ hw hH (Upd.qobj (c' := c + 1) hb q), rfl⟩
      simp [execOp, hx.eq, hy.eq, hu.eq, Instr.mapUpdate, run_underlying hm.1, MapKept.run_getObj_map hb, h1, h2, MapKept.run_setObj_map _ hb, Result.andThen]
    | some p =>
      obtain ⟨m, v0⟩ := p
      rw [ha] at h2
      obtain ⟨_, q1, q3⟩ := kvs_modify (v := v) ha he
      simp only [Nat.sub_zero] at q1 q3
      have q4 : (((es.toArray)[m]?).map (·.key)).getD (ke k) = ke k := by
        rw [List.getElem?_toArray, q3]
        rfl
      have q5 : (es.toArray.modify m fun e => { key := ke k, val := v, born := e.born }) = (es.modify m fun e => { key := ke k, val := v, born := e.born }).toArray := by
        simp
      refine ⟨undef, _, _, .inr ⟨?_, rfl⟩, Upd.at_ hw hH (Upd.qobj (c' := c) hb q1), rfl⟩
      simp only [execOp, hx.eq, hy.eq, hu.eq, Instr.mapUpdate, run_underlying hm.1, MapKept.run_getObj_map hb, h1, h2, Sem.run_bind, Result.andThen, q4, MapKept.run_keyThatStays (hk.key k), MapKept.run_setObj_map _ hb, List.toList_toArray, q5, Sem.run_pure]
  · rintro v H' rfl
    exact kk
end
end Go.Rx
/- The rule layer: a range over a function. The judgement JM speaks of code in a round's frame, or of code behind such a loop (with the loop's mark among the deferred calls). -/
namespace Go.Rx
open Go Go.RowKit
set_option linter.unusedVariables false
set_option linter.unusedSimpArgs false
abbrev fenceR (ro : Option Nat) : Fence := { fn := fun _ => True, depth := none, alive := false, round := ro }
def plus (a : Act) (ds : List Deferred) : Act := { tmps := a.tmps, defers := a.defers ++ ds }
theorem plus_nil (a : Act) : plus a [] = a := by simp [plus]
theorem plus_eval (a : Act) (ds : List Deferred) : (plus a ds).eval = a.eval := by
  funext x
  cases x <;> rfl
theorem plus_put (a : Act) (ds : List Deferred) (d : Option Tmp) (v : Value) : (plus a ds).put d v = plus (a.put d v) ds := by
  cases d <;> rfl
section
variable {P : Program} {ro : Option Nat} {m : Nat} {ds : List Deferred} {ops : Array Oper} {Q Q' : Exit → Act → World → Prop}
theorem room_fenceR (k : Nat) : (fenceR ro).room k := fun d h => by cases h
theorem rowsIn_of_rows {row : String} {args : Array Value} {w : World} {R : Value → World → Prop} (h : Rows P row args w R) : RowsIn (fenceR ro) m P row args w R :=
  fun c cs _ => let ⟨v, w', r, s⟩ := h c cs; ⟨v, w', r, stepsIn_wide.2 s⟩
theorem callsIn_of_calls {f : FuncId} {args : Array Value} {w : World} {R : Ending → World → Prop} (h : Calls P f args w R) : CallsIn (fenceR ro) m P f args w R :=
  (callsIn_wide (n := m)).2 h
theorem upon_lift (o : Oper) (a : Act) (next next' : Act → World → Prop) (hL : ¬ LetsOut Q) (hQ : ∀ x a w, Q x a w → Q' x (plus a ds) w) (hn : ∀ a w, next a w → next' (plus a ds) w) :
    ∀ r : Result Next, o.upon P a next Q r → o.uponIn (fenceR ro) m P (plus a ds) next' Q' r := by
  intro r h
  unfold Oper.upon at h
  unfold Oper.uponIn
  split at h
  · simp only [plus_put]; exact hn _ _ h
  · simp only [plus_put]; exact hn _ _ h
  · rename_i d w'
    have := hn _ _ h
    simp only
    have e : ({ plus a ds with defers := d :: (plus a ds).defers } : Act).put o.dst undef = plus (({ a with defers := d :: a.defers } : Act).put o.dst undef) ds := by
      cases o.dst <;> rfl
    rw [e]
    exact this
  · rename_i f args w'
    refine ⟨fun h => (by cases h), callsIn_of_calls (h.mono ?_)⟩
    rintro (v | ch | _) w'' hh
    · simp only [plus_put]; exact hn _ _ hh
    · exact hQ _ _ _ hh
    · exact (hL hh).elim
  · rename_i row args w'
    refine ⟨fun h => (by cases h), rowsIn_of_rows (h.mono ?_)⟩
    intro v w'' hh
    simp only [plus_put]; exact hn _ _ hh
  · exact hQ _ _ _ h
  · exact h.elim
theorem list_lift (hL : ¬ LetsOut Q) (hQ : ∀ x a w, Q x a w → Q' x (plus a ds) w) : ∀ (L : List Oper), (∀ o ∈ L, ∀ c, o.op ≠ .defer c) → ∀ a w, wpList P ops Q L a w → wpListIn (fenceR ro) m P ops Q' L (plus a ds) w
  | [], _, a, w, h => hQ _ _ _ h
  | o :: rest, hd, a, w, h => by
    have ih := list_lift hL hQ rest (fun o ho => hd o (List.mem_cons_of_mem _ ho))
    simp only [wpList] at h
    simp only [wpListIn]
    have ht : (plus a ds).tmps = a.tmps := rfl
    rw [ht]
    split at h
    · rename_i hw
      rw [if_pos hw]
      rcases h with h | ⟨_, h⟩
      · refine ⟨fun _ _ => trivial, ?_⟩
        rw [Oper.semAt_eq _ _ _ (hd o List.mem_cons_self), plus_eval]
        exact upon_lift o a _ _ hL hQ ih _ h
      · exact (hL h).elim
    · rename_i hw
      rw [if_neg hw]
      refine ⟨fun _ _ => trivial, ?_⟩
      rw [plus_put]
      exact ih _ _ h
def noDefer (l : List Oper) : Bool := l.all fun o => match o.op with | .defer _ => false | _ => true
theorem noDefer_all {l : List Oper} (h : noDefer l = true) : ∀ o ∈ l, ∀ c, o.op ≠ .defer c := by
  intro o ho c e
  have := List.all_eq_true.1 h o ho
  rw [e] at this
  cases this
end
abbrev QM := Exit → List Deferred → Env → List Chunk → Prop
def postM (n : Nat) (w0 : World) (Cs : List Chunk) (Q : QM) : Exit → Act → World → Prop :=
  fun x a' w' => ∃ a0 ds e' H', a' = plus a0 ds ∧ Fits n e' a0 ∧ Upd w0 w' Cs H' ∧ Q x ds e' H'
def JM (ro : Option Nat) (ds : List Deferred) (P : Program) (n : Nat) (w0 : World) (Cs : List Chunk) (c : Code) (H : List Chunk) (e : Env) (Q : QM) : Prop :=
  ∀ a w, Fits n e a → Upd w0 w Cs H → ∀ m, c.wpIn (fenceR ro) (m + 5) P (postM n w0 Cs Q) (plus a ds) w
abbrev thenM (next : List Deferred → Env → List Chunk → Prop) (Q : QM) : QM
  | .normal, d, e, H => next d e H
  | x, d, e, H => Q x d e H
abbrev blockM (id : Nat) (Q : QM) : QM
  | .exit id', d, e, H => if id' = id then Q .normal d e H else Q (.exit id') d e H
  | x, d, e, H => Q x d e H
section
variable {P : Program} {ro : Option Nat} {ds : List Deferred} {n : Nat} {w0 : World} {Cs H : List Chunk} {e : Env} {Q : QM} {x y : Code}
theorem JM.skip (h : Q .normal ds e H) : JM ro ds P n w0 Cs .skip H e Q := fun a w hf hw m => wpIn_skip ⟨a, ds, e, H, rfl, hf, hw, h⟩
theorem JM.ret (h : Q .ret ds e H) : JM ro ds P n w0 Cs .ret H e Q := fun a w hf hw m => wpIn_ret ⟨a, ds, e, H, rfl, hf, hw, h⟩
theorem JM.exit {id : Nat} (h : Q (.exit id) ds e H) : JM ro ds P n w0 Cs (.exit id) H e Q := fun a w hf hw m => wpIn_exit ⟨a, ds, e, H, rfl, hf, hw, h⟩
theorem JM.seq (h : JM ro ds P n w0 Cs x H e (thenM (fun ds' e' H' => JM ro ds' P n w0 Cs y H' e' Q) Q)) : JM ro ds P n w0 Cs (.seq x y) H e Q := by
  intro a w hf hw m
  refine wpIn_seq (wpIn_mono (h a w hf hw m) ?_)
  rintro ex a' w' ⟨a0, ds', e', H', rfl, h1, h2, h3⟩
  cases ex with
  | normal => exact h3 a0 w' h1 h2 m
  | _ => exact ⟨a0, ds', e', H', rfl, h1, h2, h3⟩
theorem JM.blk {id : Nat} (h : JM ro ds P n w0 Cs x H e (blockM id Q)) : JM ro ds P n w0 Cs (.block id x) H e Q := by
  intro a w hf hw m
  refine wpIn_block (wpIn_mono (h a w hf hw m) ?_)
  rintro ex a' w' ⟨a0, ds', e', H', rfl, h1, h2, h3⟩
  cases ex with
  | exit id' =>
    simp only [blockM] at h3
    simp only [Exit.inBlock]
    split at h3
    · rename_i he; rw [if_pos he]; exact ⟨a0, ds', e', H', rfl, h1, h2, h3⟩
    · rename_i he; rw [if_neg he]; exact ⟨a0, ds', e', H', rfl, h1, h2, h3⟩
  | _ => exact ⟨a0, ds', e', H', rfl, h1, h2, h3⟩
theorem JM.reg {id : Nat} {l : List Oper} (hd : noDefer l = true) (h : Seq P n l.toArray w0 Cs l H e (fun e' H' => Q .normal ds e' H')) : JM ro ds P n w0 Cs (.region id l.toArray false) H e Q := by
  intro a w hf hw m
  refine wpIn_region_lit (list_lift (Q := fun x a' w' => x = .normal ∧ ∃ e' H', Fits n e' a' ∧ Upd w0 w' Cs H' ∧ Q .normal ds e' H') ?_ ?_ l (noDefer_all hd) a w (h a w hf hw))
  · rintro ⟨a, w, h, _⟩
    cases h
  · rintro x a' w' ⟨rfl, e', H', h1, h2, h3⟩
    exact ⟨a', ds, e', H', rfl, h1, h2, h3⟩
theorem JM.rs {id : Nat} {l : List Oper} (hd : noDefer l = true) (h : Seq P n l.toArray w0 Cs l H e (fun e' H' => JM ro ds P n w0 Cs y H' e' Q)) : JM ro ds P n w0 Cs (.seq (.region id l.toArray false) y) H e Q :=
  JM.seq (JM.reg hd h)
theorem JM.cond {c : Operand} {b : Bool} (hc : ev e c = .bool b) (ht : b = true → JM ro ds P n w0 Cs x H e Q) (hf : b = false → JM ro ds P n w0 Cs y H e Q) : JM ro ds P n w0 Cs (.cond c x y) H e Q := by
  intro a w hfit hw m
  have hc' : (plus a ds).eval c = .bool b := by rw [plus_eval, hfit.eval]; exact hc
  exact wpIn_cond_split hc' (fun h => ht h a w hfit hw m) (fun h => hf h a w hfit hw m)
theorem JM.c {c : Operand} {p : Prop} [Decidable p] (hc : Look e c (.bool (decide p)) := by repeat (first | exact Look.here | apply Look.there (hne := rfl) | exact Look.const | apply Look.mix rfl | exact Look.arg0 | apply Look.args | exact Look.func)) (ht : p → JM ro ds P n w0 Cs x H e Q) (hf : ¬ p → JM ro ds P n w0 Cs y H e Q) : JM ro ds P n w0 Cs (.cond c x y) H e Q :=
  JM.cond hc.eq (fun h => ht (of_decide_eq_true h)) (fun h => hf (of_decide_eq_false h))
theorem JM.cb {c : Operand} {b : Bool} (hc : Look e c (.bool b) := by repeat (first | exact Look.here | apply Look.there (hne := rfl) | exact Look.const | apply Look.mix rfl | exact Look.arg0 | apply Look.args | exact Look.func)) (ht : b = true → JM ro ds P n w0 Cs x H e Q) (hf : b = false → JM ro ds P n w0 Cs y H e Q) : JM ro ds P n w0 Cs (.cond c x y) H e Q := JM.cond hc.eq ht hf
theorem JM.of {Q0 : Exit → Env → List Chunk → Prop} (h : JC P n w0 Cs x H e Q0) (hq : ∀ ex e H, Q0 ex e H → Q ex [] e H) : JM none [] P n w0 Cs x H e Q := by
  intro a w hf hw m
  rw [plus_nil]
  refine (wpIn_wide (n := m + 5)).2 (wp_mono (h a w hf hw) ?_)
  rintro ex a' w' ⟨e', H', h1, h2, h3⟩
  exact ⟨a', [], e', H', (plus_nil _).symm, h1, h2, hq _ _ _ h3⟩
theorem JM.pre (h : JC P n w0 Cs x H e (thenQ (fun e' H' => JM none [] P n w0 Cs y H' e' Q) (fun _ _ _ => False))) : JM none [] P n w0 Cs (.seq x y) H e Q :=
  JM.seq (JM.of h fun ex e H hh => by cases ex <;> first | exact hh | exact hh.elim)
theorem JM.as {id : Nat} {l : List Oper} (hm : P.follows .mixedOrders = true) (h : Any P n l.toArray w0 Cs H l.toArray.size (Array.replicate l.toArray.size false) H e (fun e' H' => JM none [] P n w0 Cs y H' e' Q)) :
    JM none [] P n w0 Cs (.seq (.region id l.toArray true) y) H e Q := JM.pre (JC.any hm h)
theorem JM.qs {id : Nat} {l : List Oper} (hm : P.follows .mixedOrders = true) (hB : Region.lexB .any l.toArray = true) (h : Qui P n l.toArray w0 Cs H l e (fun e' => JM none [] P n w0 Cs y H e' Q)) :
    JM none [] P n w0 Cs (.seq (.region id l.toArray true) y) H e Q := JM.pre (JC.quiet hm hB h)
theorem JM.re {c : Code} {H' : List Chunk} (h : ∀ w, Upd w0 w Cs H → Upd w0 w Cs H') (k : JM ro ds P n w0 Cs c H' e Q) : JM ro ds P n w0 Cs c H e Q := fun a w hf hw m => k a w hf (h w hw) m
theorem JM.mono {c : Code} {Q' : QM} (h : JM ro ds P n w0 Cs c H e Q) (hq : ∀ x ds e H, Q x ds e H → Q' x ds e H) : JM ro ds P n w0 Cs c H e Q' :=
  fun a w hf hw m => wpIn_mono (h a w hf hw m) fun x a' w' ⟨a0, ds', e', H', h0, h1, h2, h3⟩ => ⟨a0, ds', e', H', h0, h1, h2, hq _ _ _ _ h3⟩
theorem JM.fact {c : Code} {p : Prop} (h : ∀ w, Upd w0 w Cs H → p) (k : p → JM ro ds P n w0 Cs c H e Q) : JM ro ds P n w0 Cs c H e Q := fun a w hf hw m => k (h w hw) a w hf hw m
end
/-! ### pieces that are cells, of another type than T -/
def Chunk.but (T : TypeId) (c : Chunk) : Prop := ∀ w, c.ok w → ∀ i, c.fp i → ∃ cur e fr, w.heap[i]? = some (Obj.cells cur e fr) ∧ e ≠ T
theorem but_box {T t : TypeId} {b : Nat} {cs : List Value} (h : t ≠ T) : Chunk.but T (.box b t cs) := fun w hw i hi => by
  cases hi
  exact ⟨_, _, _, hw, h⟩
theorem but_own {T t : TypeId} {sz n : Nat} {v : Value} {xs : List Value} (h : t ≠ T) : Chunk.but T (.own t sz v n xs) := fun w hw i hi => by
  rcases hw.2 with ⟨rfl, _⟩ | ⟨g, off, cap, cur, fr, rfl, hg, _⟩
  · cases hi
  · cases hi
    exact ⟨_, _, _, hg, h⟩
def KpT (T : TypeId) (W W' : World) : Prop := ∀ (k : Nat) (cur : Array Value) (fr : Nat × Nat), W.heap[k]? = some (Obj.cells cur T fr) → W'.heap[k]? = some (Obj.cells cur T fr)
theorem KpT.refl (T : TypeId) (W : World) : KpT T W W := fun _ _ _ h => h
theorem Upd.kpT {T : TypeId} {W W' : World} {G G' : List Chunk} (h : Upd W W' G G') (ho : Own W G) (hb : ∀ c ∈ G, c.but T) : KpT T W W' := by
  intro k cur fr hk
  rw [h.keep k (Array.getElem?_eq_some_iff.1 hk).1 (fun c hc hi => ?_)]
  · exact hk
  · obtain ⟨cur', e, fr', h1, h2⟩ := hb c hc W (ho.ok c hc) k hi
    rw [hk] at h1
    cases h1
    exact h2 rfl
theorem Upd.keepsOthers {T : TypeId} {W W' : World} {G G' : List Chunk} (h : Upd W W' G G') (ho : Own W G) (hb : ∀ c ∈ G, c.but T) : KeepsOthers W W' := by
  refine ⟨h.size, fun k o hk hc => ?_⟩
  rw [h.keep k (Array.getElem?_eq_some_iff.1 hk).1 (fun c hc2 hi => ?_)]
  · exact hk
  · obtain ⟨cur', e, fr', h1, h2⟩ := hb c hc2 W (ho.ok c hc2) k hi
    rw [hk] at h1
    cases h1
    cases hc
theorem Upd.turned {T : TypeId} {w W W' : World} {L G : List Chunk} {row : Option Nat} (h : Upd w W L G) (hb : ∀ c ∈ G, c.but T) (hg : W.grownBy W' row) (hr : ∀ r, row = some r → w.heap.size ≤ r ∧ ∃ o : Obj, W.heap[r]? = some o ∧ o.isCells = false) : Upd w W' L G := by
  have hsame : ∀ i, i < W.heap.size → (∀ r, row = some r → i ≠ r) → W'.heap[i]? = W.heap[i]? := fun i hi hn => hg.block i hi (fun e => by
    cases hrow : row with
    | none => rw [hrow] at e; cases e
    | some r => rw [hrow] at e; cases e; exact hn i hrow rfl)
  refine ⟨hg.os.trans h.os, hg.tape.trans h.tape, hg.output.trans h.output, Nat.le_trans h.size hg.size, fun i hi hn => ?_, ⟨fun c hc => ?_, h.own.sep⟩, h.fresh⟩
  · rw [hsame i (Nat.lt_of_lt_of_le hi h.size) (fun r hr2 e => by have := (hr r hr2).1; omega)]
    exact h.keep i hi hn
  · refine c.stable (fun i hi => hsame i (c.live (h.own.ok c hc) hi) (fun r hr2 e => ?_)) (h.own.ok c hc)
    obtain ⟨cur, t, fr, h1, h2⟩ := hb c hc W (h.own.ok c hc) i hi
    obtain ⟨_, o, h3, h4⟩ := hr r hr2
    rw [← e, h1] at h3
    cases h3
    cases h4
abbrev markC (D : Nat) : Chunk := .blk D (.deferred (some []))
abbrev markD (D : Nat) : Deferred := { target := .collected D, args := #[] }
section
variable {P : Program} {n : Nat} {w0 : World} {Cs H L F : List Chunk} {e : Env} {Q : QM}
theorem JM.range {α : Type} {g : Operand} {p1 p2 : Tmp} {assign body : Code} {gf : Nat} {lb : Array Value} {v1 v2 : α → Value} (T : TypeId) {S Sp : List α → Prop} {N : Nat}
    (hg : Look e g (.func (.func gf) #[] lb)) (hent : Enters P gf) (hp1 : Nat.blt p1 n = true) (hp2 : Nat.blt p2 n = true)
    (hseq : ∀ m w, Upd w0 w Cs H → SeqStopsK (fenceR none) m P gf lb (fun x => #[v1 x, v2 x]) (KpT T) S Sp N w)
    (hp : (L ++ F).Perm H) (I : List α → List Chunk → Prop) (Ix : Code → List α → List Chunk → Prop) (A : α → Env → Prop)
    (hIb : ∀ pre G, I pre G → ∀ c ∈ G, c.but T) (hIxb : ∀ c pre G, Ix c pre G → ∀ c ∈ G, c.but T) (h0 : I [] L)
    (hassign : ∀ l x W0 G, JM (some l) [] P n W0 G assign G (upd (upd e p1 (v1 x)) p2 (v2 x)) (fun ex ds e' G' => ex = .normal ∧ ds = [] ∧ A x e' ∧ G' = G))
    (hbody : ∀ l pre x W0 G e', pre.length < N → I pre G → A x e' → JM (some l) [] P n W0 G body G e' (fun ex ds e2 G' => ds = [] ∧ (match ex with
      | .normal => I (pre ++ [x]) G'
      | .ret => Ix .ret (pre ++ [x]) G'
      | .exit id => Ix (.exit id) (pre ++ [x]) G'
      | _ => False)))
    (hdone : ∀ D xs G, w0.heap.size ≤ D → S xs → I xs G → Q .normal [markD D] e (markC D :: (G ++ F)))
    (hstop : ∀ D c pre G, w0.heap.size ≤ D → Sp pre → Ix c pre G → JM none [markD D] P n w0 Cs c (markC D :: (G ++ F)) e Q) :
    JM none [] P n w0 Cs (.rangeFunc g #[p1, p2] assign body) H e Q := by
  intro a w hf hw m
  rw [plus_nil]
  have hw1 : Upd w0 w Cs (L ++ F) := hw.perm hp.symm
  have hL : Own w L := hw1.own.sub (List.sublist_append_left _ _)
  have key : ∀ D G W, w.heap.size ≤ D → Upd w W L G → (∀ c ∈ G, c.but T) → W.heap[D]? = some (.deferred (some [])) → Upd w0 W Cs (markC D :: (G ++ F)) := by
    intro D G W hD hu hb hK
    have h1 := Upd.step hw1 hu
    refine ⟨h1.os, h1.tape, h1.output, h1.size, h1.keep, ⟨fun c hc => ?_, List.pairwise_cons.2 ⟨fun c hc i hi hci => ?_, h1.own.sep⟩⟩, fun c hc i hi => ?_⟩
    · rcases List.mem_cons.1 hc with rfl | hc
      · exact hK
      · exact h1.own.ok c hc
    · cases hi
      rcases List.mem_append.1 hc with hc | hc
      · obtain ⟨cur, t, fr, h2, _⟩ := hb c hc W (hu.own.ok c hc) D hci
        rw [hK] at h2
        cases h2
      · have := c.live (hw1.own.ok c (List.mem_append_right _ hc)) hci
        omega
    · rcases List.mem_cons.1 hc with rfl | hc
      · cases hi
        exact .inr (Nat.le_trans hw.size hD)
      · exact h1.fresh c hc i hi
  have hplus : ∀ D, ({ a with defers := markD D :: a.defers } : Act) = plus a [markD D] := fun D => by simp [plus, hf.defers]
  refine wpIn_rangeFunc_ownH (F := fenceR none) (n := m + 5) rfl (by omega) (gf := gf) (lb := lb) (encs := fun x => #[v1 x, v2 x]) (Kp := KpT T) (S := S) (Sp := Sp) (N := N) (w0 := w) (by rw [hf.eval]; exact hg.eq) trivial
    (fun args w => by
      obtain ⟨fn, h1, h2, h3⟩ := hent
      have hn' : ¬ fn.name = "runtime.NumGoroutine" := by simpa using h2
      have hb' : ¬ fn.body = none := by cases h : fn.body <;> simp_all
      simp [callFunc, h1, hn', hb'])
    (hseq _ w hw) (fun h k i cur fr hk => k i cur fr (h i cur fr hk)) ?_ (Below.refl _ _) (fun _ => rfl)
    (fun pre W => ∃ G, Upd w W L G ∧ I pre G) (fun c pre W => ∃ G, Upd w W L G ∧ Ix c pre G) ?_ ?_ ⟨L, Upd.refl hL, h0⟩ (fun x a' _ => ∃ e', Fits n e' a' ∧ A x e') (fun _ _ _ _ _ _ h _ _ => h) ?_ ?_ ?_ ?_
  · intro W l o o' hl ho hc hwk k cur fr hk
    have hne : k ≠ l := fun e => by subst e; rw [ho] at hk; cases hk; cases hc
    rw [World.putObj_heap_other hne]
    exact hk
  · rintro pre W W' row ⟨G, hu, hi⟩ hgr hr
    exact ⟨G, hu.turned (hIb _ _ hi) hgr hr, hi⟩
  · rintro c pre W W' row ⟨G, hu, hi⟩ hgr hr
    exact ⟨G, hu.turned (hIxb _ _ _ hi) hgr hr, hi⟩
  · rintro l pre x W K ⟨G, hu, hi⟩ hK
    have hfit : Fits n (upd (upd e p1 (v1 x)) p2 (v2 x)) { tmps := (a.tmps.setIfInBounds p1 (v1 x)).setIfInBounds p2 (v2 x), defers := [] } := by
      have h1 := (hf.put hp1 (v1 x)).put hp2 (v2 x)
      exact ⟨h1.size, h1.at_, rfl⟩
    have h1 := hassign l x W G _ W hfit (Upd.refl hu.own) (m - 2)
    have e5 : m + 5 - 1 - 1 = m + 3 := by omega
    simp only [plus_nil] at h1
    have h2 : assign.wpIn ((fenceR none).inRound l) (m + 5 - 1 - 1) P (postM n W G (fun ex ds e' G' => ex = .normal ∧ ds = [] ∧ A x e' ∧ G' = G)) { tmps := (a.tmps.setIfInBounds p1 (v1 x)).setIfInBounds p2 (v2 x), defers := [] } W := by
      intro b k cs hro hb hr
      exact h1 b k cs hro hb (room_fenceR _)
    have he : (#[p1, p2].zip #[v1 x, v2 x]).foldl (fun t (p, v) => t.setIfInBounds p v) a.tmps = (a.tmps.setIfInBounds p1 (v1 x)).setIfInBounds p2 (v2 x) := by simp
    simp only [he]
    refine wpIn_mono h2 ?_
    rintro ex a' w' ⟨a0, ds, e', G', rfl, h3, h4, rfl, rfl, h5, rfl⟩
    rw [plus_nil]
    refine hK a0 w' ((h4.keepsOthers hu.own (hIb _ _ hi)).from _) (h4.kpT hu.own (hIb _ _ hi)) ⟨G', ?_, hi⟩ ⟨e', h3, h5⟩
    have := Upd.step (F := []) (by simpa using hu) h4
    simpa using this
  · rintro l pre x a' W hl hrec ⟨G, hu, hi⟩ ⟨e', hf', hA⟩ hN
    have h1 := hbody l pre x W G e' hN hi hA a' W hf' (Upd.refl hu.own) m
    simp only [plus_nil] at h1
    have h2 : body.wpIn ((fenceR none).inRound l) (m + 5 - 1 - 1) P _ a' W := fun b k cs hro hb hr => h1 b k cs hro hb (room_fenceR _)
    refine wpIn_mono h2 ?_
    rintro ex a2 w' ⟨a0, ds, e2, G', rfl, h3, h4, rfl, h5⟩
    have k1 := (h4.keepsOthers hu.own (hIb _ _ hi)).from w.heap.size
    have k2 := h4.kpT hu.own (hIb _ _ hi)
    have k3 : Upd w w' L G' := by
      have := Upd.step (F := []) (by simpa using hu) h4
      simpa using this
    cases ex with
    | normal => exact ⟨k1, k2, G', k3, h5⟩
    | ret => exact ⟨k1, G', k3, h5⟩
    | exit id => exact ⟨k1, G', k3, h5⟩
    | goto t => exact h5.elim
    | panic ch => exact h5.elim
    | outgrown => exact h5.elim
  · rintro D xs W hD hS ⟨G, hu, hi⟩ hK
    rw [hplus]
    exact ⟨a, _, e, _, rfl, hf, key D G W hD hu (hIb _ _ hi) hK, hdone D xs G (Nat.le_trans hw.size hD) hS hi⟩
  · rintro D c pre W hD hS ⟨G, hu, hi⟩ hK
    rw [hplus]
    exact hstop D c pre G (Nat.le_trans hw.size hD) hS hi a W hf (key D G W hD hu (hIxb _ _ _ hi) hK) m
end
theorem JM.rangeH {P : Program} {n : Nat} {w0 : World} {Cs H L F : List Chunk} {e : Env} {Q : QM} {α : Type} {g : Operand} {p1 p2 : Tmp} {assign body : Code} {gf : Nat} {lb : Array Value} {v1 v2 : α → Value} (T : TypeId) {S Sp : List α → Prop} {N : Nat} (D : List Nat) (lk : α → List (Nat × Value))
    (I : List α → List Chunk → Prop) (Ix : Code → List α → List Chunk → Prop)
    (hg : Look e g (.func (.func gf) #[] lb) := by repeat (first | exact Look.here | apply Look.there (hne := rfl) | exact Look.const | apply Look.mix rfl | exact Look.arg0 | apply Look.args | exact Look.func)) (hent : Enters P gf) (hp1 : Nat.blt p1 n = true) (hp2 : Nat.blt p2 n = true)
    (hseq : ∀ m w, Upd w0 w Cs H → SeqStopsK (fenceR none) m P gf lb (fun x => #[v1 x, v2 x]) (KpT T) S Sp N w)
    (hp : (L ++ F).Perm H) (hIb : ∀ pre G, I pre G → ∀ c ∈ G, c.but T) (hIxb : ∀ c pre G, Ix c pre G → ∀ c ∈ G, c.but T) (h0 : I [] L)
    (hassign : ∀ l x W0 G, JM (some l) [] P n W0 G assign G (upd (upd e p1 (v1 x)) p2 (v2 x)) (fun ex ds e' G' => ex = .normal ∧ ds = [] ∧ Has D (lk x) e e' ∧ G' = G))
    (hbody : ∀ l pre x W0 G e', pre.length < N → I pre G → Has D (lk x) e e' → JM (some l) [] P n W0 G body G e' (fun ex ds e2 G' => ds = [] ∧ (match ex with
      | .normal => I (pre ++ [x]) G'
      | .ret => Ix .ret (pre ++ [x]) G'
      | .exit id => Ix (.exit id) (pre ++ [x]) G'
      | _ => False)))
    (hdone : ∀ D xs G, w0.heap.size ≤ D → S xs → I xs G → Q .normal [markD D] e (markC D :: (G ++ F)))
    (hstop : ∀ D c pre G, w0.heap.size ≤ D → Sp pre → Ix c pre G → JM none [markD D] P n w0 Cs c (markC D :: (G ++ F)) e Q) :
    JM none [] P n w0 Cs (.rangeFunc g #[p1, p2] assign body) H e Q :=
  JM.range T hg hent hp1 hp2 hseq hp I Ix (fun x e' => Has D (lk x) e e') hIb hIxb h0 hassign hbody hdone hstop
/-! ### a whole function that holds such a loop -/
def retM (P : Program) (w0 : World) (Cs : List Chunk) (rs : List ResultVar) (Post : Value → List Chunk → Prop) : QM
  | .normal, ds, e, H | .ret, ds, e, H => ∃ D H2 vs H', ds = [markD D] ∧ (markC D :: H2).Perm H ∧ w0.heap.size ≤ D ∧ RVs P w0 Cs H2 e rs vs ∧ Part H' H2 ∧ Post (pack vs) H'
  | _, _, _, _ => False
theorem retIM {P : Program} {w0 : World} {Cs H2 H' : List Chunk} {e : Env} {D : Nat} {rs : List ResultVar} {Post : Value → List Chunk → Prop} {vs : List Value} (hD : w0.heap.size ≤ D) (h : RVs P w0 Cs H2 e rs vs) (hp : Part H' H2) (hpost : Post (pack vs) H') : retM P w0 Cs rs Post .ret [markD D] e (markC D :: H2) := by
  unfold retM
  exact ⟨D, H2, vs, H', rfl, List.Perm.refl _, hD, h, hp, hpost⟩
theorem Upd.unmark {w0 w : World} {Cs H : List Chunk} {D : Nat} (h : Upd w0 w Cs (markC D :: H)) (hD : w0.heap.size ≤ D) : Upd w0 (w.putObj D (.deferred none)) Cs H := by
  have hK : w.heap[D]? = some (.deferred (some [])) := h.own.ok _ List.mem_cons_self
  have hs := List.pairwise_cons.1 h.own.sep
  have hother : ∀ i, i ≠ D → (w.putObj D (.deferred none)).heap[i]? = w.heap[i]? := fun i hi => World.putObj_heap_other hi
  have hg := grownBy_putObj' w D (.deferred none)
  refine ⟨hg.os.trans h.os, hg.tape.trans h.tape, hg.output.trans h.output, Nat.le_trans h.size hg.size, fun i hi hn => ?_, ⟨fun c hc => ?_, hs.2⟩, fun c hc => h.fresh c (List.mem_cons_of_mem _ hc)⟩
  · rw [hother i (by omega)]
    exact h.keep i hi hn
  · exact c.stable (fun i hi => hother i (fun e => hs.1 c hc i e hi)) (h.own.ok c (List.mem_cons_of_mem _ hc))
theorem Spec.enterM {P : Program} {f : FuncId} {fn : Func} {c : Code} {n : Nat} {rs : List ResultVar} {Gs : List Chunk} {Post : Value → List Chunk → Prop} {w : World} (args : List Value)
    (hf : P.funcs[f]? = some fn) (hn : (fn.name == "runtime.NumGoroutine") = false) (hb : fn.body = some c) (hnt : fn.ntmps = n) (hres : fn.results = rs.toArray) (hlen : Nat.ble args.length n = true)
    (hown : Own w Gs) (h : JM none [] P n w Gs c Gs (env0 args) (retM P w Gs rs Post)) : Spec P f args.toArray w Gs Post := by
  refine ⟨⟨fn, hf, hn, by simp [hb]⟩, (callsIn_wide (n := 5)).1 (callsIn_of_wp_marks hf hb trivial ?_)⟩
  have hle : args.length ≤ n := by simpa using hlen
  have hfit : Fits n (env0 args) { tmps := args.toArray ++ Array.replicate (fn.ntmps - args.toArray.size) undef, defers := [] } := by
    refine ⟨by simp [hnt]; omega, fun j => ?_, rfl⟩
    simp only [env0]
    by_cases hj : j < args.length
    · simp [Array.getElem?_append, hj]
    · simp [Array.getElem?_append, hj]
      rw [Array.getElem?_replicate]
      split <;> simp_all
  have h1 := h _ w hfit (Upd.refl hown) 0
  rw [plus_nil] at h1
  refine wpIn_mono h1 ?_
  rintro ex a' w' ⟨a0, ds, e', H', rfl, h1, h2, h3⟩
  have fin : ∀ D H2 vs H3, ds = [markD D] → (markC D :: H2).Perm H' → w.heap.size ≤ D → RVs P w Gs H2 e' rs vs → Part H3 H2 → Post (pack vs) H3 →
      LeavesInM Fence.wide 5 P fn (plus a0 ds).tmps (fun e w' => ∃ v H', e = .returned v ∧ Upd w w' Gs H' ∧ Post v H') (plus a0 ds).defers .returning w' := by
    rintro D H2 vs H3 rfl hp hD hrv hp3 hpost
    have hu := h2.perm hp.symm
    have hK : w'.heap[D]? = some (.deferred (some [])) := hu.own.ok _ List.mem_cons_self
    have hu2 := hu.unmark hD
    have hd : (plus a0 [markD D]).defers = [markD D] := by simp [plus, h1.defers]
    rw [hd]
    refine ⟨by simp, .inl ⟨D, _, rfl, run_takeDeferred hK, ?_⟩⟩
    exact ⟨_, run_results (a := a0) hres hrv h1 hu2, _, H3, rfl, hu2.part hp3, hpost⟩
  cases ex with
  | normal =>
    obtain ⟨D, H2, vs, H3, g1, g2, g3, g4, g5, g6⟩ := h3
    exact fin D H2 vs H3 g1 g2 g3 g4 g5 g6
  | ret =>
    obtain ⟨D, H2, vs, H3, g1, g2, g3, g4, g5, g6⟩ := h3
    exact fin D H2 vs H3 g1 g2 g3 g4 g5 g6
  | _ => exact h3.elim
end Go.Rx
/- The rule layer: a function that calls yield. What it does is told of worlds themselves: between two rounds the caller's body runs. -/
namespace Go.Rx
open Go Go.RowKit
set_option linter.unusedVariables false
set_option linter.unusedSimpArgs false
abbrev QW := Exit → Env → World → Prop
def postW (n : Nat) (Q : QW) : Exit → Act → World → Prop := fun x a' w' => ∃ e', Fits n e' a' ∧ Q x e' w'
def JW (m : Nat) (P : Program) (n : Nat) (c : Code) (e : Env) (W : World) (Q : QW) : Prop := ∀ a, Fits n e a → c.wpIn (fenceR none) m P (postW n Q) a W
abbrev thenW (next : Env → World → Prop) (Q : QW) : QW
  | .normal, e, w => next e w
  | x, e, w => Q x e w
abbrev blockW (id : Nat) (Q : QW) : QW
  | .exit id', e, w => if id' = id then Q .normal e w else Q (.exit id') e w
  | x, e, w => Q x e w
section
variable {m : Nat} {P : Program} {n : Nat} {W : World} {G : List Chunk} {e : Env} {Q : QW} {x y c : Code}
theorem JW.skip (h : Q .normal e W) : JW m P n .skip e W Q := fun a hf => wpIn_skip ⟨e, hf, h⟩
theorem JW.ret (h : Q .ret e W) : JW m P n .ret e W Q := fun a hf => wpIn_ret ⟨e, hf, h⟩
theorem JW.exit {id : Nat} (h : Q (.exit id) e W) : JW m P n (.exit id) e W Q := fun a hf => wpIn_exit ⟨e, hf, h⟩
theorem JW.seq (h : JW m P n x e W (thenW (fun e' W' => JW m P n y e' W' Q) Q)) : JW m P n (.seq x y) e W Q := by
  intro a hf
  refine wpIn_seq (wpIn_mono (h a hf) ?_)
  rintro ex a' w' ⟨e', h1, h2⟩
  cases ex with
  | normal => exact h2 a' h1
  | _ => exact ⟨e', h1, h2⟩
theorem JW.blk {id : Nat} (h : JW m P n x e W (blockW id Q)) : JW m P n (.block id x) e W Q := by
  intro a hf
  refine wpIn_block (wpIn_mono (h a hf) ?_)
  rintro ex a' w' ⟨e', h1, h3⟩
  cases ex with
  | exit id' =>
    simp only [blockW] at h3
    simp only [Exit.inBlock]
    split at h3
    · rename_i he; rw [if_pos he]; exact ⟨e', h1, h3⟩
    · rename_i he; rw [if_neg he]; exact ⟨e', h1, h3⟩
  | _ => exact ⟨e', h1, h3⟩
theorem JW.cb {o : Operand} {b : Bool} (hc : Look e o (.bool b) := by repeat (first | exact Look.here | apply Look.there (hne := rfl) | exact Look.const | apply Look.mix rfl | exact Look.arg0 | apply Look.args | exact Look.func)) (ht : b = true → JW m P n x e W Q) (hf : b = false → JW m P n y e W Q) : JW m P n (.cond o x y) e W Q := by
  intro a hfit
  have hc' : a.eval o = .bool b := by rw [hfit.eval]; exact hc.eq
  exact wpIn_cond_split hc' (fun h => ht h a hfit) (fun h => hf h a hfit)
theorem JW.cp {o : Operand} {p : Prop} [Decidable p] (hc : Look e o (.bool (decide p)) := by repeat (first | exact Look.here | apply Look.there (hne := rfl) | exact Look.const | apply Look.mix rfl | exact Look.arg0 | apply Look.args | exact Look.func)) (ht : p → JW m P n x e W Q) (hf : ¬ p → JW m P n y e W Q) : JW m P n (.cond o x y) e W Q :=
  JW.cb hc (fun h => ht (of_decide_eq_true h)) (fun h => hf (of_decide_eq_false h))
theorem JW.mono {Q' : QW} (h : JW m P n c e W Q) (hq : ∀ x e w, Q x e w → Q' x e w) : JW m P n c e W Q' :=
  fun a hf => wpIn_mono (h a hf) fun x a' w' ⟨e', h0, h1⟩ => ⟨e', h0, hq _ _ _ h1⟩
theorem JW.of {Q0 : Exit → Env → List Chunk → Prop} (hO : Own W G) (h : JC P n W G c G e Q0) (hq : ∀ x e' H' W', Upd W W' G H' → Q0 x e' H' → Q x e' W') : JW m P n c e W Q := by
  intro a hf
  refine (wpIn_wide (n := m)).2 (wp_mono (h a W hf (Upd.refl hO)) ?_)
  rintro x a' w' ⟨e', H', h1, h2, h3⟩
  exact ⟨e', h1, hq _ _ _ _ h2 h3⟩
theorem JW.pre (hO : Own W G) (h : JC P n W G x G e (thenQ (fun e' H' => ∀ W', Upd W W' G H' → JW m P n y e' W' Q) (fun _ _ _ => False))) : JW m P n (.seq x y) e W Q :=
  JW.seq (JW.of hO h fun ex e H W' hu hh => by cases ex <;> first | exact hh W' hu | exact hh.elim)
theorem JW.rs {id : Nat} {l : List Oper} (hO : Own W G) (h : Seq P n l.toArray W G l G e (fun e' H' => ∀ W', Upd W W' G H' → JW m P n y e' W' Q)) : JW m P n (.seq (.region id l.toArray false) y) e W Q :=
  JW.pre hO (JC.reg h)
theorem JW.reg {id : Nat} {l : List Oper} (hO : Own W G) (h : Seq P n l.toArray W G l G e (fun e' H' => ∀ W', Upd W W' G H' → Q .normal e' W')) : JW m P n (.region id l.toArray false) e W Q :=
  JW.of (Q0 := fun x e' H' => x = .normal ∧ ∀ W', Upd W W' G H' → Q .normal e' W') hO (JC.reg (h.monoK fun e' H' hh => ⟨rfl, hh⟩)) fun x e' H' W' hu hh => by
    obtain ⟨rfl, h2⟩ := hh
    exact h2 W' hu
theorem JW.loop (I : Nat → Env → World → Prop) (k : Nat) (h0 : I k e W) (round : ∀ k e W, I k e W → JW m P n c e W (thenW (fun e' W' => ∃ k', k' < k ∧ I k' e' W') Q)) : JW m P n (.loop c) e W Q := by
  intro a hf
  refine wpIn_loop_ghost (fun k a w => ∃ e, Fits n e a ∧ I k e w) k ⟨e, hf, h0⟩ ?_
  rintro k a w ⟨e, hf, hI⟩
  refine wpIn_mono (round k e w hI a hf) ?_
  rintro ex a' w' ⟨e', h1, h2⟩
  cases ex with
  | normal =>
    obtain ⟨k', hlt, hI'⟩ := h2
    exact ⟨k', hlt, e', h1, hI'⟩
  | _ => exact ⟨e', h1, h2⟩
end
/-! ### the call of yield -/
theorem wpListIn_app {m : Nat} {P : Program} {ops : Array Oper} {F : Fence} {Q : Exit → Act → World → Prop} (l2 : List Oper) : ∀ (l1 : List Oper) (a : Act) (w : World),
    wpListIn F m P ops (fun x a w => x = .normal ∧ wpListIn F m P ops Q l2 a w) l1 a w → wpListIn F m P ops Q (l1 ++ l2) a w
  | [], a, w, h => h.2
  | o :: l1, a, w, h => by
    have ih := wpListIn_app (F := F) (m := m) (P := P) (ops := ops) (Q := Q) l2 l1
    simp only [List.cons_append, wpListIn] at h ⊢
    split at h
    · rename_i hw
      rw [if_pos hw]
      refine ⟨h.1, ?_⟩
      have h2 := h.2
      revert h2
      generalize (o.semAt F.round a.eval).run P w = r
      intro h2
      unfold Oper.uponIn at h2 ⊢
      split at h2
      · exact ih _ _ h2
      · exact ih _ _ h2
      · exact ih _ _ h2
      · refine ⟨h2.1, h2.2.mono ?_⟩
        rintro (v | ch | _) w'' hh
        · exact ih _ _ hh
        · exact absurd hh.1 (by simp)
        · obtain ⟨a, w, hh, _⟩ := hh
          cases hh
      · exact ⟨h2.1, h2.2.mono fun v w'' hh => ih _ _ hh⟩
      · refine ⟨h2.1, h2.2.mono ?_⟩
        rintro (v | ch | _) w'' hh
        · exact ih _ _ hh
        · exact absurd hh.1 (by simp)
        · obtain ⟨a, w, hh, _⟩ := hh
          cases hh
      · exact absurd h2.1 (by simp)
      · exact h2.elim
    · rename_i hw
      rw [if_neg hw]
      exact ⟨h.1, ih _ _ h.2⟩
section
variable {m : Nat} {P : Program} {n : Nat} {W : World} {G : List Chunk} {e : Env} {Q : QW} {ty : TypeId} {pos : String} {af : Array Edge} {as : List Operand} {ats : Array TypeId}
theorem run_yield (ρ : Operand → Value) (x : Operand) (L : Nat) (hx : ρ x = .func (.yield L) #[] #[]) (d : Option Tmp) (g : Option (Nat × Bool)) (w : World) :
    (execOp ρ ⟨d, .call ⟨.value x, as.toArray, ats⟩, ty, pos, af, g⟩).run P w = (Instr.yield L (as.map ρ).toArray).run P w := by
  simp [execOp, resolve, Deferred.ofValue, invoke, hx]
theorem JW.yield {id k d x L : Nat} {l l2 : List Oper} (hk : l.drop k = ⟨some d, .call ⟨.value (.tmp x), as.toArray, ats⟩, ty, pos, af, none⟩ :: l2) (hd : noDefer l = true) (ht : Nat.blt d n = true)
    (hO : Own W G) (h : Seq P n l.toArray W G (l.take k) G e (fun e1 H1 => ∀ W1, Upd W W1 G H1 → e1 x = .func (.yield L) #[] #[] ∧
      YieldAt (fenceR none) (m - 1) P L (as.map (ev e1)).toArray W1 (fun en W2 => ∃ v, en = .returned v ∧ Seq P n l.toArray W2 [] l2 [] (upd e1 d v) (fun e2 H2 => ∀ W3, Upd W2 W3 [] H2 → Q .normal e2 W3)))) :
    JW m P n (.region id l.toArray false) e W Q := by
  intro a hf
  refine wpIn_region_lit ?_
  have hl : l = l.take k ++ (⟨some d, .call ⟨.value (.tmp x), as.toArray, ats⟩, ty, pos, af, none⟩ :: l2) := by rw [← hk, List.take_append_drop]
  have hd1 : ∀ o ∈ l.take k, ∀ c, o.op ≠ .defer c := fun o ho => noDefer_all hd o (List.mem_of_mem_take ho)
  have hd2 : ∀ o ∈ l2, ∀ c, o.op ≠ .defer c := fun o ho => noDefer_all hd o (by rw [hl]; exact List.mem_append_right _ (List.mem_cons_of_mem _ ho))
  generalize hops : l.toArray = ops at h ⊢
  rw [hl]
  refine wpListIn_app _ _ _ _ ?_
  have h1 := list_lift (m := m) (ro := none) (ds := []) (Q' := fun y a' w' => y = .normal ∧ wpListIn (fenceR none) m P ops (postW n Q) (⟨some d, .call ⟨.value (.tmp x), as.toArray, ats⟩, ty, pos, af, none⟩ :: l2) a' w') ?_ ?_ (l.take k) hd1 a W (h a W hf (Upd.refl hO))
  · rw [plus_nil] at h1
    exact h1
  · rintro ⟨a, w, h, _⟩
    cases h
  rintro y a' w' ⟨rfl, e1, H1, hf1, hu1, hK⟩
  rw [plus_nil]
  refine ⟨rfl, ?_⟩
  obtain ⟨hx, fn, tmps, assign, body, hy, hR⟩ := hK w' hu1
  simp only [wpListIn]
  rw [if_pos (wanted_none rfl _)]
  refine ⟨fun _ _ => trivial, ?_⟩
  rw [Oper.semAt_eq _ _ _ (by intro c h; cases h), hf1.eval, run_yield (ev e1) (.tmp x) L hx, hy]
  refine ⟨(fun h => nomatch h), hR.mono ?_⟩
  rintro en W2 ⟨v, rfl, hS⟩
  have h2 := list_lift (m := m) (ro := none) (ds := []) (Q' := postW n Q) ?_ ?_ l2 hd2 _ W2 (hS _ W2 (hf1.put ht v) (Upd.refl (Own.nil _)))
  · rw [plus_nil] at h2
    exact h2
  · rintro ⟨a, w, h, _⟩
    cases h
  rintro y a2 w2 ⟨rfl, e2, H2, hf2, hu2, hK2⟩
  rw [plus_nil]
  exact ⟨e2, hf2, hK2 _ hu2⟩
end
theorem JW.enter {m : Nat} {P : Program} {f : FuncId} {fn : Func} {c : Code} {n : Nat} {W : World} (args : List Value) {Post : World → Prop}
    (hf : P.funcs[f]? = some fn) (hn : (fn.name == "runtime.NumGoroutine") = false) (hb : fn.body = some c) (hnt : fn.ntmps = n) (hres : fn.results = #[]) (hlen : Nat.ble args.length n = true)
    (h : JW m P n c (env0 args) W (fun x _ w => (x = .normal ∨ x = .ret) ∧ Post w)) : CallsIn (fenceR none) m P f args.toArray W (fun en w => (∃ v, en = .returned v) ∧ Post w) := by
  refine callsIn_of_wp hf hb trivial ?_ rfl
  have hle : args.length ≤ n := by simpa using hlen
  have hfit : Fits n (env0 args) { tmps := args.toArray ++ Array.replicate (fn.ntmps - args.toArray.size) undef, defers := [] } := by
    refine ⟨by simp [hnt]; omega, fun j => ?_, rfl⟩
    simp only [env0]
    by_cases hj : j < args.length
    · simp [Array.getElem?_append, hj]
    · simp [Array.getElem?_append, hj]
      rw [Array.getElem?_replicate]
      split <;> simp_all
  refine wpIn_mono (h _ hfit) ?_
  rintro ex a' w' ⟨e', h1, h2, h3⟩
  have hr : (results fn a'.tmps).run P w' = .ok (pack []) w' := run_results (rs := []) (w0 := w') (Cs := []) (H := []) hres RVs.nil h1 (Upd.refl (Own.nil _))
  rcases h2 with rfl | rfl
  · exact ⟨h1.defers, _, hr, ⟨_, rfl⟩, h3⟩
  · exact ⟨h1.defers, _, hr, ⟨_, rfl⟩, h3⟩
theorem KpT.own {T : TypeId} {W W' : World} {sz n : Nat} {v : Value} {xs : List Value} (h : KpT T W W') (ho : Own W [.own T sz v n xs]) : Own W' [.own T sz v n xs] := by
  refine ⟨fun c hc => ?_, by simp⟩
  rw [List.mem_singleton.1 hc]
  have h1 : OwnR W T sz v n xs := ho.ok _ List.mem_cons_self
  refine ⟨h1.1, ?_⟩
  rcases h1.2 with hn | ⟨g, off, cap, cur, fr, rfl, hg, rest⟩
  · exact .inl hn
  · exact .inr ⟨g, off, cap, cur, fr, rfl, h g cur fr hg, rest⟩
theorem Upd.grown0 {W W' : World} {H : List Chunk} (h : Upd W W' [] H) : W.grownBy W' none :=
  ⟨h.os, h.tape, h.output, h.size, fun i hi _ => h.keep i hi (by simp)⟩
theorem Own.grown {W W' : World} {G : List Chunk} (ho : Own W G) (h : W.grownBy W' none) : Own W' G :=
  ⟨fun c hc => c.stable (fun i hi => h.block i (c.live (ho.ok c hc) hi) (by simp)) (ho.ok c hc), ho.sep⟩
end Go.Rx
/- The rule layer: three operations that may come up in a drawn region, each of them first. -/
namespace Go.Rx
open Go Go.RowKit
theorem Any.three {P : Program} {n : Nat} {ops : Array Oper} {w0 : World} {Cs H0 H : List Chunk} {e : Env} {K : Env → List Chunk → Prop} {fuel : Nat} {listed : Array Bool} (i j k : Nat) {o o' o'' : Oper} (hi : ops[i]? = some o) (hj : ops[j]? = some o') (hk : ops[k]? = some o'') (hr : Region.ready .any ops listed = [i, j, k])
    (h : Seq P n ops w0 Cs [o] H e (fun e' H' => Part H0 H' ∧ Any P n ops w0 Cs H0 fuel (listed.setIfInBounds i true) H' e' K))
    (h' : Seq P n ops w0 Cs [o'] H e (fun e' H' => Part H0 H' ∧ Any P n ops w0 Cs H0 fuel (listed.setIfInBounds j true) H' e' K))
    (h'' : Seq P n ops w0 Cs [o''] H e (fun e' H' => Part H0 H' ∧ Any P n ops w0 Cs H0 fuel (listed.setIfInBounds k true) H' e' K)) : Any P n ops w0 Cs H0 (fuel + 1) listed H e K := by
  intro hp
  refine ⟨fun h0 => (by rw [hr] at h0; cases h0), fun m hm a w hf hw => ?_⟩
  rw [hr] at hm
  have hm' : m = i ∨ m = j ∨ m = k := by simpa using hm
  rcases hm' with rfl | rfl | rfl
  · exact AnyW.at_ hi h hf hw
  · exact AnyW.at_ hj h' hf hw
  · exact AnyW.at_ hk h'' hf hw
end Go.Rx
