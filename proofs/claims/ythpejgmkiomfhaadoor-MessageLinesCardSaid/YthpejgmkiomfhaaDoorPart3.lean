/- Parts of the proof. -/
import Derived.Test.YthpejgmkiomfhaaDoorPart2
import Derived.Test.YthpejgmkiomfhaaDoorPart1
set_option linter.unusedVariables false
set_option linter.unusedSimpArgs false
/- The program's Encode. -/
namespace Go.Rx
open Go Go.RowKit Go.Lib Go.Proofs.YthpejgmkiomfhaaDoor
set_option linter.unusedVariables false
set_option linter.unusedSimpArgs false
structure Sb where
  v : Value
  l : List Int
deriving Inhabited
def Sb.enc (p : Sb) : List Value := [p.v]
theorem get_memS {α : Type} [Inhabited α] {xs : List α} {i : Nat} (h : i < xs.length) : xs[i]! ∈ xs := by
  rw [getElem!_pos xs i h]
  exact List.getElem_mem _
theorem flat_take {α : Type} [Inhabited α] (f : α → List Int) {xs : List α} {i : Nat} (h : i < xs.length) : (xs.take (i + 1)).flatMap f = (xs.take i).flatMap f ++ f xs[i]! := by
  rw [List.take_succ_eq_append_getElem h, List.flatMap_append, getElem!_pos xs i h]
  simp
theorem flat_le {α : Type} (f : α → List Int) (xs : List α) (i : Nat) : ((xs.take i).flatMap f).length ≤ (xs.flatMap f).length := by
  conv => rhs; rw [← List.take_append_drop i xs, List.flatMap_append, List.length_append]
  omega
theorem bytesOf_app (a b : ByteArray) : bytesOf (a ++ b) = bytesOf a ++ bytesOf b := by
  unfold bytesOf
  rw [ByteArray.data_append, Array.toList_append, List.map_append]
theorem bytesOf_dec (n : Nat) : bytesOf (decS n) = decL n := by
  unfold bytesOf decL
  rw [decS_list]
set_option maxHeartbeats 1000000 in
set_option maxRecDepth 100000 in
theorem growNilB {w : World} {m : Nat} (hm : m ≤ 140737488355328) : Spec Go.Proofs.Tryd.prog 70 #[.slice none 0 0, .int .i64 (m : Int)] w [] (fun u N => ∃ A c, u = .slice A 0 c ∧ N = [bytesC (.slice A 0 c) []]) := by
  refine Spec.enter (fn := Go.Proofs.Tryd.f70) (n := 27) [.slice none 0 0, .int .i64 (m : Int)] Go.Proofs.Tryd.func70 (by kernel_rfl) rfl Go.Proofs.Tryd.ntmps70 Go.Proofs.Tryd.results70 rfl (Own.nil _) ?_
  refine JC.rs ?_
  refine Seq.p rfl Ev.assign ?_
  refine Seq.nil ?_
  refine JC.seq ?_
  refine JC.rs ?_
  refine Seq.p rfl Ev.move ?_
  refine Seq.p rfl Ev.lt ?_
  refine Seq.nil ?_
  first | refine JC.c (ht := fun c6 => ?_) (hf := fun c6 => ?_) | refine JC.cb (ht := fun c6 => ?_) (hf := fun c6 => ?_)
  · -- then_t6
    exfalso; omega
  · -- else_t6
    refine JC.skip ?_
    refine JC.seq ?_
    refine JC.rs ?_
    refine Seq.p rfl Ev.move ?_
    refine Seq.p rfl Ev.move ?_
    refine Seq.p rfl (Ev.capSl sl.sl_uint8) ?_
    refine Seq.p rfl Ev.move ?_
    refine Seq.p rfl (Ev.lenSl sl.sl_uint8 (hr := (RSl.empty byteEnc 1 _ []).r)) ?_
    refine Seq.p rfl (Ev.sub (h := by decide)) ?_
    have e1 : ((0 : Nat) : Int) - ((List.length ([] : List Int) : Nat) : Int) = 0 := rfl
    rw [e1]
    refine Seq.p rfl (Ev.sub) ?_
    rw [Int.sub_zero]
    refine Seq.p rfl Ev.assign ?_
    refine Seq.nil ?_
    refine JC.rs ?_
    refine Seq.p rfl Ev.move ?_
    refine Seq.p rfl Ev.gt ?_
    refine Seq.nil ?_
    first | refine JC.c (ht := fun c16 => ?_) (hf := fun c16 => ?_) | refine JC.cb (ht := fun c16 => ?_) (hf := fun c16 => ?_)
    · -- then_t16
      refine JC.reg ?_
      refine Seq.p rfl Ev.move ?_
      refine Seq.p rfl Ev.move ?_
      refine Seq.p rfl (Ev.capSl sl.sl_uint8) ?_
      refine Seq.p rfl (Ev.cutHi (h := 0) sl.sl_uint8) ?_
      refine Seq.p rfl Ev.move ?_
      refine Seq.growNil (m := m) (hsl := sl.sl_uint8) (he := el.uint8) (hi := it.int) (kk := ?_); intro b22 c22 zs
      refine Seq.p rfl Ev.move ?_
      refine Seq.p rfl (Ev.lenSl sl.sl_uint8 (hr := (RSl.empty byteEnc 1 _ []).r)) ?_
      refine Seq.p rfl (Ev.cutHi (h := 0) sl.sl_uint8) ?_
      refine Seq.re (fun w h => Upd.own0 h At.z) ?_
      refine Seq.p rfl Ev.assign ?_
      refine Seq.nil ?_
      refine JC.rs ?_
      refine Seq.p rfl Ev.move ?_
      refine Seq.p rfl Ev.assign ?_
      refine Seq.nil ?_
      refine JC.ret ?_
      -- return 0
      show retQ _ _ _ _ _ _ _ _
      refine ret1 (hp := Part.refl _) (hpost := ?_)
      exact ⟨_, _, rfl, rfl⟩
    · -- else_t16
      obtain rfl : m = 0 := by omega
      refine JC.re (fun w h => Upd.nilOwn h 5 1) ?_
      refine JC.skip ?_
      refine JC.rs ?_
      refine Seq.p rfl Ev.move ?_
      refine Seq.p rfl Ev.assign ?_
      refine Seq.nil ?_
      refine JC.ret ?_
      -- return 1
      show retQ _ _ _ _ _ _ _ _
      refine ret1 (hp := Part.refl _) (hpost := ?_)
      exact ⟨_, _, rfl, rfl⟩
set_option maxHeartbeats 1000000 in
set_option maxRecDepth 100000 in
theorem concatBytes {w : World} {v : Value} {ps : List Sb} (hr : RSl Sb.enc 1 w [] v ps) (hp : ∀ p ∈ ps, RSl byteEnc 1 w [] p.v p.l) (hs : (ps.flatMap (·.l)).length ≤ 70368744177664) :
    Spec Go.Proofs.Tryd.prog 40 #[v] w [] (fun u H' => ∃ A c, u = .slice A (ps.flatMap (·.l)).length c ∧ H' = [bytesC (.slice A (ps.flatMap (·.l)).length c) (ps.flatMap (·.l))]) := by
  have hsm := hr.small
  refine Spec.enter (fn := Go.Proofs.Tryd.f40) (n := 36) [v] Go.Proofs.Tryd.func40 (by kernel_rfl) rfl Go.Proofs.Tryd.ntmps40 Go.Proofs.Tryd.results40 rfl (Own.nil _) ?_
  refine JC.rs ?_
  refine Seq.p rfl Ev.assign ?_
  refine Seq.nil ?_
  refine JC.rs ?_
  refine Seq.p rfl Ev.assign ?_
  refine Seq.nil ?_
  refine JC.seq ?_
  refine JC.rs ?_
  refine Seq.p rfl Ev.move ?_
  refine Seq.p rfl (Ev.lenSl sl.sl_sl_uint8 (hr := hr.r)) ?_
  refine Seq.p rfl Ev.move ?_
  refine Seq.nil ?_
  refine JC.blk ?_
  refine JC.loop (α := Nat) (I := fun i e1 H1 => Has [3, 5, 11, 12, 13, 14, 15, 16, 17, 18, 19, 20, 21, 22] [(3, .int .i64 (((ps.take i).flatMap (·.l)).length : Int)), (11, .int .i64 (i : Int))] _ e1 ∧ H1 = _ ∧ i ≤ ps.length) (μ := fun i => ps.length - i) 0 ⟨Has.mk Off.refl (allLook_cons (by repeat (first | exact Look.here | apply Look.there (hne := rfl) | exact Look.const | apply Look.mix rfl | exact Look.arg0 | apply Look.args | exact Look.func)) (allLook_cons (by repeat (first | exact Look.here | apply Look.there (hne := rfl) | exact Look.const | apply Look.mix rfl | exact Look.arg0 | apply Look.args | exact Look.func)) allLook_nil)), rfl, by omega⟩ ?_
  rintro i _ _ ⟨⟨u, rfl⟩, rfl, hi⟩; dsimp only [setL]
  refine JC.rs ?_
  refine Seq.p rfl Ev.lt ?_
  refine Seq.nil ?_
  refine JC.seq ?_
  first | refine JC.c (ht := fun c12 => ?_) (hf := fun c12 => ?_) | refine JC.cb (ht := fun c12 => ?_) (hf := fun c12 => ?_)
  · -- then_t12
    have hi2 : i < ps.length := by omega
    have hft := flat_take (·.l) hi2
    have hfl := flat_le (·.l) ps (i + 1)
    have hfl2 := congrArg List.length hft
    rw [List.length_append] at hfl2
    have hpi := hp _ (get_memS hi2)
    refine JC.skip ?_
    refine JC.seq ?_
    refine JC.blk ?_
    refine JC.rs ?_
    refine Seq.p rfl (Ev.iaN sl.sl_sl_uint8 (hr := hr.r)) ?_
    refine Seq.p rfl (Ev.ldE1 sc.sl_uint8 (hr := hr.r)) ?_
    refine Seq.p rfl Ev.assign ?_
    refine Seq.nil ?_
    refine JC.rs ?_
    refine Seq.p rfl Ev.move ?_
    refine Seq.p rfl Ev.move ?_
    refine Seq.p rfl (Ev.lenSl sl.sl_uint8 (hr := hpi.r)) ?_
    refine Seq.p rfl (Ev.addN (m := ((ps.take i).flatMap (·.l)).length) (c := (ps[i]!).l.length)) ?_
    refine Seq.p rfl Ev.assign ?_
    refine Seq.nil ?_
    refine JC.rs ?_
    refine Seq.p rfl Ev.move ?_
    refine Seq.p rfl Ev.lt ?_
    refine Seq.nil ?_
    first | refine JC.c (ht := fun c20 => ?_) (hf := fun c20 => ?_) | refine JC.cb (ht := fun c20 => ?_) (hf := fun c20 => ?_)
    · -- then_t20
      exfalso; omega
    · -- else_t20
      refine JC.skip ?_
      refine JC.reg ?_
      refine Seq.p rfl (by first | exact Ev.inc | exact Ev.add) ?_
      refine Seq.p rfl Ev.move ?_
      refine Seq.nil ?_
      exact ⟨i + 1, _, Part.refl _, ⟨Has.mk (by repeat (first | refine Off.upd ?_ rfl | exact Off.mix | refine Off.mix2 ?_ rfl | exact Off.refl)) (allLook_cons (by rw [hfl2]; exact (by repeat (first | exact Look.here | apply Look.there (hne := rfl) | exact Look.const | apply Look.mix rfl | exact Look.arg0 | apply Look.args | exact Look.func))) (allLook_cons (by repeat (first | exact Look.here | apply Look.there (hne := rfl) | exact Look.const | apply Look.mix rfl | exact Look.arg0 | apply Look.args | exact Look.func)) allLook_nil)), rfl, by omega⟩, by omega⟩
  · -- else_t12
    obtain rfl : i = ps.length := by omega
    rw [List.take_length]
    refine JC.exit ?_ -- 0
    refine JC.rs ?_
    refine Seq.p rfl Ev.move ?_
    obtain ⟨m, hm⟩ : ∃ m, m = (ps.flatMap (·.l)).length := ⟨_, rfl⟩
    rw [← hm]
    refine Seq.call rfl (fun w' hw => growNilB (m := m) (by omega)) (F := []) (by exact List.Perm.refl _) ?_
    rintro _ _ ⟨A24, c24, rfl, rfl⟩
    simp only [List.cons_append, List.nil_append]
    refine Seq.p rfl Ev.assign ?_
    refine Seq.nil ?_
    refine JC.seq ?_
    refine JC.rs ?_
    refine Seq.p rfl Ev.move ?_
    refine Seq.p rfl (Ev.lenSl sl.sl_sl_uint8 (hr := hr.r)) ?_
    refine Seq.p rfl Ev.move ?_
    refine Seq.nil ?_
    refine JC.blk ?_
    refine JC.loop (α := Nat) (I := fun i e1 H1 => ∃ A c, Has [6, 8, 27, 28, 29, 30, 31, 32, 33, 34] [(6, .slice A ((ps.take i).flatMap (·.l)).length c), (27, .int .i64 (i : Int))] _ e1 ∧ H1 = [bytesC (.slice A ((ps.take i).flatMap (·.l)).length c) ((ps.take i).flatMap (·.l))] ∧ i ≤ ps.length) (μ := fun i => ps.length - i) 0 ⟨A24, c24, Has.mk Off.refl (allLook_cons (by repeat (first | exact Look.here | apply Look.there (hne := rfl) | exact Look.const | apply Look.mix rfl | exact Look.arg0 | apply Look.args | exact Look.func)) (allLook_cons (by repeat (first | exact Look.here | apply Look.there (hne := rfl) | exact Look.const | apply Look.mix rfl | exact Look.arg0 | apply Look.args | exact Look.func)) allLook_nil)), rfl, by omega⟩ ?_
    rintro i _ _ ⟨A, c, ⟨u2, rfl⟩, rfl, hi⟩; dsimp only [setL]
    refine JC.rs ?_
    refine Seq.p rfl Ev.lt ?_
    refine Seq.nil ?_
    refine JC.seq ?_
    first | refine JC.c (ht := fun c28 => ?_) (hf := fun c28 => ?_) | refine JC.cb (ht := fun c28 => ?_) (hf := fun c28 => ?_)
    · -- then_t28
      have hi2 : i < ps.length := by omega
      have hft := flat_take (·.l) hi2
      have hfl := flat_le (·.l) ps (i + 1)
      have hfl2 := congrArg List.length hft
      rw [List.length_append] at hfl2
      have hpi := hp _ (get_memS hi2)
      refine JC.skip ?_
      refine JC.seq ?_
      refine JC.blk ?_
      refine JC.rs ?_
      refine Seq.p rfl (Ev.iaN sl.sl_sl_uint8 (hr := hr.r)) ?_
      refine Seq.p rfl (Ev.ldE1 sc.sl_uint8 (hr := hr.r)) ?_
      refine Seq.p rfl Ev.assign ?_
      refine Seq.nil ?_
      refine JC.reg ?_
      refine Seq.p rfl Ev.move ?_
      refine Seq.p rfl Ev.move ?_
      refine Seq.append (hsl := sl.sl_uint8) (he := el.uint8) (hsrc := (fun w' hw => Src.rsl sl.sl_uint8 (hpi.up hw) (by omega) byteOne)) (k := ?_); intro A33 c33
      refine Seq.p rfl Ev.assign ?_
      refine Seq.nil ?_
      refine JC.reg ?_
      refine Seq.p rfl (by first | exact Ev.inc | exact Ev.add) ?_
      refine Seq.p rfl Ev.move ?_
      refine Seq.nil ?_
      refine ⟨i + 1, _, Part.refl _, ⟨A33, c33, Has.mk (by repeat (first | refine Off.upd ?_ rfl | exact Off.mix | refine Off.mix2 ?_ rfl | exact Off.refl)) (allLook_cons (by rw [hfl2]; exact (by repeat (first | exact Look.here | apply Look.there (hne := rfl) | exact Look.const | apply Look.mix rfl | exact Look.arg0 | apply Look.args | exact Look.func))) (allLook_cons (by repeat (first | exact Look.here | apply Look.there (hne := rfl) | exact Look.const | apply Look.mix rfl | exact Look.arg0 | apply Look.args | exact Look.func)) allLook_nil)), ?_, by omega⟩, by omega⟩
      rw [hft, bytesC_append _ _ _ _ rfl, List.length_append]
      rfl
    · -- else_t28
      obtain rfl : i = ps.length := by omega
      rw [List.take_length]
      refine JC.exit ?_ -- 2
      refine JC.rs ?_
      refine Seq.p rfl Ev.move ?_
      refine Seq.p rfl Ev.assign ?_
      refine Seq.nil ?_
      refine JC.ret ?_
      -- return 0
      show retQ _ _ _ _ _ _ _ _
      refine ret1 (hp := Part.refl _) (hpost := ?_)
      subst hm
      exact ⟨A, c, rfl, rfl⟩
set_option maxHeartbeats 1000000 in
set_option maxRecDepth 100000 in
theorem textField {w : World} {n : Nat} {v : ByteArray} (hn : n < 10000) (hv : v.size ≤ 70368744177664) (hL : LaidT w) :
    Spec Go.Proofs.Tryd.prog 38 #[.int .i64 (n : Int), .string v] w [] (fun u H' => ∃ A c, u = .slice A (fieldL n v).length c ∧ H' = [bytesC (.slice A (fieldL n v).length c) (fieldL n v)]) := by
  have hd4 := decL_four hn
  have hi : (⟨(itoa (n : Int)).toArray⟩ : ByteArray) = decS n := by rw [itoa_nonneg]; rfl
  have hds : (decS n).size = (decL n).length := by rw [← strOf_dec, strOf_size]
  have hss : (decS n ++ ⟨#[61]⟩ ++ v).size = (fldL n v).length := by
    rw [ByteArray.size_append, ByteArray.size_append, hds, fld_len]
    rfl
  have hbo : bytesOf (decS n ++ ⟨#[61]⟩ ++ v) = fldL n v := by
    rw [bytesOf_app, bytesOf_app, bytesOf_dec]
    unfold fldL
    rw [List.append_assoc]
    rfl
  have hfl := fld_len n v
  refine Spec.enter (fn := Go.Proofs.Tryd.f38) (n := 13) [.int .i64 (n : Int), .string v] Go.Proofs.Tryd.func38 (by kernel_rfl) rfl Go.Proofs.Tryd.ntmps38 Go.Proofs.Tryd.results38 rfl (Own.nil _) ?_
  refine JC.rs ?_
  refine Seq.p rfl Ev.assign ?_
  refine Seq.nil ?_
  refine JC.rs ?_
  refine Seq.p rfl Ev.move ?_
  refine Seq.callP rfl (fun w hw => hi ▸ textItoa (by omega) (by omega) (hL.upd hw)) ?_
  refine Seq.p rfl (Ev.addStr (h := by rw [hds]; show _ + 1 ≤ _; omega)) ?_
  refine Seq.p rfl Ev.move ?_
  refine Seq.p rfl (Ev.addStr (h := by rw [ByteArray.size_append, hds]; show _ + 1 + _ ≤ _; omega)) ?_
  refine Seq.strBytes (hs := st.string) (hd := sl.sl_uint8) (he := it.uint8) (hsz := by omega) (k := ?_); intro b10 c10
  rw [hss, hbo]
  refine Seq.buildSlN [_] (hsl := sl.sl_uint8) (hz := z.uint8) (k := ?_); intro b11
  refine Seq.append (hsl := sl.sl_uint8) (he := el.uint8) (hsrc := (fun w' hw => Src.box (hl := by rfl) (hc := fun q u hu => hu) sl.sl_uint8 At.z hw)) (k := ?_); intro A12 c12
  refine Seq.p rfl Ev.assign ?_
  refine Seq.nil ?_
  refine JC.ret ?_
  -- return 0
  show retQ _ _ _ _ _ _ _ _
  refine ret1 (hp := Part.skip (Part.refl _)) (hpost := ?_)
  refine ⟨A12, c12, ?_, ?_⟩
  · unfold fieldL; rw [List.length_append]; rfl
  · unfold fieldL; rw [bytesC_append _ _ _ _ rfl, List.length_append]; rfl
end Go.Rx
/- The program's Encode is the plain function. -/
namespace Go.Rx
open Go Go.RowKit Go.Lib Go.Proofs.YthpejgmkiomfhaaDoor
set_option linter.unusedVariables false
set_option linter.unusedSimpArgs false
def bodyTo (kind : ByteArray) (xs : List Tg) (i : Nat) : List Int := fieldL 35 kind ++ (xs.take i).flatMap fun t => fieldL t.tag.toNat t.value
theorem bodyTo_succ {kind : ByteArray} {xs : List Tg} {i : Nat} (h : i < xs.length) : bodyTo kind xs (i + 1) = bodyTo kind xs i ++ fieldL (xs[i]!).tag.toNat (xs[i]!).value := by
  unfold bodyTo
  rw [flat_take _ h, List.append_assoc]
theorem bodyTo_le (kind : ByteArray) (xs : List Tg) (i : Nat) : (bodyTo kind xs i).length ≤ (bodyL kind xs).length := by
  unfold bodyTo bodyL
  rw [List.length_append, List.length_append]
  have := flat_le (fun t : Tg => fieldL t.tag.toNat t.value) xs i
  omega
theorem bodyTo_all (kind : ByteArray) (xs : List Tg) : bodyTo kind xs xs.length = bodyL kind xs := by
  unfold bodyTo bodyL
  rw [List.take_length]
theorem bytesOf_begin : bytesOf beginS = beginL := by decide
theorem encE_bad {xs : List Tg} {i : Nat} (hi : i < xs.length) (h : refusedF (xs.take i) xs[i]! ≠ 0) : encE (xs.take i) (xs.drop i) = refusedF (xs.take i) xs[i]! := by
  rw [List.drop_eq_getElem_cons hi, ← getElem!_pos xs i hi]
  unfold encE
  exact if_pos h
theorem encE_next {xs : List Tg} {i : Nat} (hi : i < xs.length) (h : ¬ refusedF (xs.take i) xs[i]! ≠ 0) : encE (xs.take i) (xs.drop i) = encE (xs.take (i + 1)) (xs.drop (i + 1)) := by
  rw [List.drop_eq_getElem_cons hi, ← getElem!_pos xs i hi, List.take_succ_eq_append_getElem hi, ← getElem!_pos xs i hi]
  conv => lhs; unfold encE
  exact if_neg h
theorem encF_kind {kind : ByteArray} {xs : List Tg} (h : kindB kind = false) : encF kind xs = (3, []) := if_pos h
theorem encF_many {kind : ByteArray} {xs : List Tg} (h : ¬ kindB kind = false) (h1 : 64 < xs.length) : encF kind xs = (2, []) := by unfold encF; rw [if_neg h, if_pos h1]
theorem encF_ref {kind : ByteArray} {xs : List Tg} (h : ¬ kindB kind = false) (h1 : ¬ 64 < xs.length) (h2 : encE [] xs ≠ 0) : encF kind xs = (encE [] xs, []) := by unfold encF; rw [if_neg h, if_neg h1, if_pos h2]
theorem encF_long {kind : ByteArray} {xs : List Tg} (h : ¬ kindB kind = false) (h1 : ¬ 64 < xs.length) (h2 : ¬ encE [] xs ≠ 0) (h3 : 2048 < (lineL kind xs).length) : encF kind xs = (2, []) := by unfold encF; rw [if_neg h, if_neg h1, if_neg h2, if_pos h3]
theorem encF_line {kind : ByteArray} {xs : List Tg} (h : ¬ kindB kind = false) (h1 : ¬ 64 < xs.length) (h2 : ¬ encE [] xs ≠ 0) (h3 : ¬ 2048 < (lineL kind xs).length) : encF kind xs = (0, lineL kind xs) := by unfold encF; rw [if_neg h, if_neg h1, if_neg h2, if_neg h3]
theorem decL_nineteen {n : Nat} (h : n ≤ 1099511627776) : (decL n).length ≤ 19 := by
  have h1 := natF_dec (n := n) (by omega)
  have h2 : (decL n).length ≤ 20 := by
    unfold natF at h1
    split at h1
    · cases h1
    · rename_i hc
      rw [strOf_size] at hc
      omega
  rcases Nat.lt_or_ge (decL n).length 20 with h3 | h3
  · omega
  · exfalso
    have s : ∀ k : Nat, ¬ k < 10 → (decDigits k).length = (decDigits (k / 10)).length + 1 := fun k hk => by
      rw [decDigits, dif_neg hk, List.length_append]
      rfl
    have e : ∀ k : Nat, k < 10 → (decDigits k).length = 1 := fun k hk => by rw [decDigits_one hk]; rfl
    have key : ∀ m k : Nat, k < 10 ^ (m + 1) → (decDigits k).length ≤ m + 1 := by
      intro m
      induction m with
      | zero => intro k hk; rw [e k (by simpa using hk)]; exact Nat.le_refl _
      | succ m ih =>
        intro k hk
        by_cases h1 : k < 10
        · rw [e k h1]; omega
        · rw [s k h1]
          have := ih (k / 10) (by rw [Nat.pow_succ] at hk; omega)
          omega
    have h4 := key 18 n (by have : (10 : Nat) ^ (18 + 1) = 10000000000000000000 := by decide
                            omega)
    have h5 : (decL n).length = (decDigits n).length := by unfold decL; rw [List.length_map]
    omega
set_option maxHeartbeats 1000000 in
set_option maxRecDepth 100000 in
theorem textEncode {w : World} {v : Value} {kind : ByteArray} {xs : List Tg} (hr : RSl Tg.enc 2 w [] v xs) (hk : kind.size ≤ 281474976710656) (hsz : ∀ t ∈ xs, t.value.size ≤ 70368744177664) (hb : (bodyL kind xs).length ≤ 1099511627776) (hL : LaidT w) :
    Spec Go.Proofs.Tryd.prog 18 #[.string kind, v] w [] (fun u H' => ∃ A c, u = .tuple #[.slice A (encF kind xs).2.length c, .int .i64 (encF kind xs).1] ∧ H' = [bytesC (.slice A (encF kind xs).2.length c) (encF kind xs).2]) := by
  have hsm := hr.small
  obtain ⟨ec, eb, hef⟩ : ∃ a b, encF kind xs = (a, b) := ⟨_, _, rfl⟩
  rw [hef]
  obtain ⟨f35, hf35⟩ : ∃ f, f = fieldL 35 kind := ⟨_, rfl⟩
  obtain ⟨body, hbody⟩ : ∃ f, f = bodyL kind xs := ⟨_, rfl⟩
  obtain ⟨ds, hds0⟩ : ∃ f, f = beginL ++ decL body.length := ⟨_, rfl⟩
  obtain ⟨front, hfront⟩ : ∃ f, f = frontL kind xs := ⟨_, rfl⟩
  obtain ⟨la, hla⟩ : ∃ f, f = lastL front := ⟨_, rfl⟩
  obtain ⟨line, hline⟩ : ∃ f, f = lineL kind xs := ⟨_, rfl⟩
  have hll : line = front ++ la := by rw [hline, hla, hfront]; rfl
  have hl7 : la.length = 7 := by rw [hla]; rfl
  have hll3 : line.length = front.length + 7 := by rw [hll, List.length_append, hl7]
  have hd19 := decL_nineteen hb
  have hfl := front_len kind xs
  rw [← hfront] at hfl
  rw [← hbody] at hb hd19 hfl
  have hdl : ds.length = 10 + (decL body.length).length := by rw [hds0, List.length_append]; rfl
  have hdz : (decS body.length).size = (decL body.length).length := by rw [← strOf_dec, strOf_size]
  have hit : (⟨(itoa (body.length : Int)).toArray⟩ : ByteArray) = decS body.length := by rw [itoa_nonneg]; rfl
  have hss : (beginS ++ decS body.length).size = ds.length := by rw [ByteArray.size_append, hdl, hdz]; rfl
  have hbo : bytesOf (beginS ++ decS body.length) = ds := by rw [bytesOf_app, bytesOf_dec, bytesOf_begin, hds0]
  have hfe : front = ds ++ [1] ++ body := by rw [hfront, hds0, hbody]; rfl
  have hBl : isBytes la := by rw [hla]; exact isBytes_last _
  have hfB : isBytes front := by
    rw [hfe]
    intro x hx
    rcases List.mem_append.1 hx with hx | hx
    · rcases List.mem_append.1 hx with hx | hx
      · rw [hds0] at hx
        rcases List.mem_append.1 hx with hx | hx
        · have hbb : isBytes beginL := by
            intro x hx
            simp only [beginL, List.mem_cons, List.not_mem_nil, or_false] at hx
            omega
          exact hbb x hx
        · exact decL_bytes _ x hx
      · rw [List.mem_singleton.1 hx]; decide
    · have hfb : ∀ (n : Nat) (v : ByteArray), isBytes (fieldL n v) := fun n v y hy => by
        unfold fieldL fldL at hy
        rcases List.mem_append.1 hy with hy | hy
        · rcases List.mem_append.1 hy with hy | hy
          · exact decL_bytes _ y hy
          · rcases List.mem_cons.1 hy with rfl | hy
            · decide
            · exact bytesOf_range _ y hy
        · rw [List.mem_singleton.1 hy]; decide
      rw [hbody] at hx
      unfold bodyL at hx
      rcases List.mem_append.1 hx with hx | hx
      · exact hfb _ _ x hx
      · obtain ⟨t, _, ht⟩ := List.mem_flatMap.1 hx
        exact hfb _ _ x ht
  have hsl : strOf la = strOf (lastL front) := by rw [hla]
  have hslz : (strOf la).size = la.length := strOf_size la
  have hslb : bytesOf (strOf la) = la := bytesOf_str hBl
  refine Spec.enter (fn := Go.Proofs.Tryd.f18) (n := 61) [.string kind, v] Go.Proofs.Tryd.func18 (by kernel_rfl) rfl Go.Proofs.Tryd.ntmps18 Go.Proofs.Tryd.results18 rfl (Own.nil _) ?_
  refine JC.re (fun w h => h.nilOwn 5 1) ?_
  refine JC.rs ?_
  refine Seq.p rfl Ev.assign ?_
  refine Seq.p rfl Ev.assign ?_
  refine Seq.nil ?_
  refine JC.seq ?_
  refine JC.blk ?_
  refine JC.rs ?_
  refine Seq.p rfl Ev.move ?_
  refine Seq.callP rfl (fun w hw => textIsKind hk) ?_
  refine Seq.p rfl Ev.not ?_
  refine Seq.p rfl Ev.assign ?_
  refine Seq.nil ?_
  first | refine JC.c (ht := fun c11 => ?_) (hf := fun c11 => ?_) | refine JC.cb (ht := fun c11 => ?_) (hf := fun c11 => ?_)
  · -- then_t11
    have h1 : kindB kind = false := by simpa using c11
    refine JC.rs ?_
    refine Seq.p rfl Ev.assign ?_
    refine Seq.p rfl Ev.assign ?_
    refine Seq.nil ?_
    refine JC.ret ?_
    -- return 0
    show retQ _ _ _ _ _ _ _ _
    refine ret2 (H' := [bytesC (.slice none 0 0) []]) (hp := (by repeat (first | exact Part.nil _ | refine Part.at (by repeat (first | exact At.z | apply At.s)) ?_))) (hpost := ?_)
    rw [encF_kind h1] at hef
    cases hef
    exact ⟨none, 0, rfl, rfl⟩
  · -- else_t11
    have h1 : ¬ kindB kind = false := by simpa using c11
    refine JC.rs ?_
    refine Seq.p rfl Ev.move ?_
    refine Seq.p rfl (Ev.lenSl sl.sl_api_Tag (hr := hr.r)) ?_
    refine Seq.p rfl Ev.gt ?_
    refine Seq.p rfl Ev.assign ?_
    refine Seq.nil ?_
    first | refine JC.c (ht := fun c15 => ?_) (hf := fun c15 => ?_) | refine JC.cb (ht := fun c15 => ?_) (hf := fun c15 => ?_)
    · -- then_t15
      refine JC.rs ?_
      refine Seq.p rfl Ev.assign ?_
      refine Seq.p rfl Ev.assign ?_
      refine Seq.nil ?_
      refine JC.ret ?_
      -- return 1
      show retQ _ _ _ _ _ _ _ _
      refine ret2 (H' := [bytesC (.slice none 0 0) []]) (hp := (by repeat (first | exact Part.nil _ | refine Part.at (by repeat (first | exact At.z | apply At.s)) ?_))) (hpost := ?_)
      rw [encF_many h1 (by omega)] at hef
      cases hef
      exact ⟨none, 0, rfl, rfl⟩
    · -- else_t15
      have h2 : ¬ 64 < xs.length := by omega
      have hb0 : bodyTo kind xs 0 = f35 := by rw [hf35]; simp [bodyTo]
      have hkz : kind.size ≤ 70368744177664 := by
        have h5 := bodyTo_le kind xs 0
        rw [hb0, hf35, field_len, ← hbody] at h5
        omega
      refine JC.skip ?_
      refine JC.rs ?_
      refine Seq.p rfl Ev.move ?_
      refine Seq.call rfl (fun w' hw => by have h := textField (n := 35) (by decide) hkz (hL.upd hw); rw [← hf35] at h; exact h) (F := _) (by exact List.Perm.refl _) ?_
      rintro _ _ ⟨A20, c20, rfl, rfl⟩
      simp only [List.cons_append, List.nil_append]
      refine Seq.p rfl Ev.assign ?_
      refine Seq.nil ?_
      refine JC.seq ?_
      refine JC.rs ?_
      refine Seq.p rfl Ev.move ?_
      refine Seq.p rfl (Ev.lenSl sl.sl_api_Tag (hr := hr.r)) ?_
      refine Seq.p rfl Ev.move ?_
      refine Seq.nil ?_
      refine JC.blk ?_
      refine JC.loop (α := Nat) (I := fun i e1 H1 => ∃ A c m, Has [4, 5, 6, 7, 8, 9, 23, 24, 25, 26, 27, 28, 29, 30, 31, 32, 33, 34, 35, 36, 37, 38, 39, 40, 41, 42, 43] [(6, .slice A m.length c), (23, .int .i64 (i : Int))] _ e1 ∧ H1 = [bytesC (.slice A m.length c) m, bytesC (.slice none 0 0) []] ∧ i ≤ xs.length ∧ encE (xs.take i) (xs.drop i) = encE [] xs ∧ m = bodyTo kind xs i) (μ := fun i => xs.length - i) 0 ⟨A20, c20, f35, Has.mk Off.refl (allLook_cons (by repeat (first | exact Look.here | apply Look.there (hne := rfl) | exact Look.const | apply Look.mix rfl | exact Look.arg0 | apply Look.args | exact Look.func)) (allLook_cons (by repeat (first | exact Look.here | apply Look.there (hne := rfl) | exact Look.const | apply Look.mix rfl | exact Look.arg0 | apply Look.args | exact Look.func)) allLook_nil)), rfl, by omega, rfl, hb0.symm⟩ ?_
      rintro i _ _ ⟨A, c, m, ⟨u, rfl⟩, rfl, hi, he, hm⟩; dsimp only [setL]
      refine JC.rs ?_
      refine Seq.p rfl Ev.lt ?_
      refine Seq.nil ?_
      refine JC.seq ?_
      first | refine JC.c (ht := fun c24 => ?_) (hf := fun c24 => ?_) | refine JC.cb (ht := fun c24 => ?_) (hf := fun c24 => ?_)
      · -- then_t24
        have hi2 : i < xs.length := by omega
        have htake : RSl Tg.enc 2 w [] (subSl v 0 i 2) (xs.take i) := by
          have h3 := hr.sub (lo := 0) (hi := i) (by omega) (by omega)
          rwa [List.drop_zero] at h3
        have hvs := hsz _ (get_memS hi2)
        refine JC.skip ?_
        refine JC.seq ?_
        refine JC.blk ?_
        refine JC.rs ?_
        refine Seq.p rfl Ev.move ?_
        refine Seq.p rfl (Ev.iaN sl.sl_api_Tag (hr := hr.r)) ?_
        refine Seq.p rfl (Ev.ldEA ag.api_Tag (hr := hr.r)) ?_
        refine Seq.alloc (cs := [_, _]) (hz := z.api_Tag) (k := ?_); intro b8
        refine Seq.p rfl Ev.assign ?_
        refine Seq.storeN [_, _] sz.api_Tag (k := ?_)
        refine Seq.nil ?_
        refine JC.seq ?_
        refine JC.qs mixed (by kernel_rfl) ?_
        refine Qui.p rfl Ev.move ?_
        refine Qui.p rfl Ev.move ?_
        refine Qui.p rfl (Ev.cut sl.sl_api_Tag (hr := hr.r) (l := 0) (h := i) (hlo := rfl) (hhi := ⟨_, (by repeat (first | exact Look.here | apply Look.there (hne := rfl) | exact Look.const | apply Look.mix rfl | exact Look.arg0 | apply Look.args | exact Look.func))⟩)) ?_
        refine Qui.p rfl (Ev.ldBA ag.api_Tag) ?_
        refine Qui.call rfl (fun w hw => textRefused (t := xs[i]!) (htake.up hw) (by omega)) ?_
        refine Qui.p rfl Ev.assign ?_
        refine Qui.nil ?_
        refine JC.rs ?_
        refine Seq.p rfl Ev.move ?_
        refine Seq.p rfl Ev.ne ?_
        refine Seq.nil ?_
        first | refine JC.c (ht := fun c34 => ?_) (hf := fun c34 => ?_) | refine JC.cb (ht := fun c34 => ?_) (hf := fun c34 => ?_)
        · -- then_t34
          refine JC.rs ?_
          refine Seq.p rfl Ev.move ?_
          refine Seq.p rfl Ev.assign ?_
          refine Seq.p rfl Ev.assign ?_
          refine Seq.nil ?_
          refine JC.ret ?_
          -- return 2
          show retQ _ _ _ _ _ _ _ _
          refine ret2 (H' := [bytesC (.slice none 0 0) []]) (hp := (by repeat (first | exact Part.nil _ | refine Part.at (by repeat (first | exact At.z | apply At.s)) ?_))) (hpost := ?_)
          have h4 := encE_bad hi2 c34
          rw [encF_ref h1 h2 (by rw [← he, h4]; exact c34), ← he, h4] at hef
          cases hef
          exact ⟨none, 0, rfl, rfl⟩
        · -- else_t34
          have h4 := encE_next hi2 c34
          obtain ⟨q1, q2, q3⟩ := refused_ok (Classical.not_not.1 c34)
          obtain ⟨g1, g2, g3⟩ := tag_range q1
          have hbs := bodyTo_succ (kind := kind) hi2
          have hbl := bodyTo_le kind xs (i + 1)
          obtain ⟨fl, hfl2⟩ : ∃ f, f = fieldL (xs[i]!).tag.toNat (xs[i]!).value := ⟨_, rfl⟩
          rw [← hm, ← hfl2] at hbs
          rw [hbs, List.length_append, ← hbody] at hbl
          refine JC.skip ?_
          refine JC.reg ?_
          refine Seq.p rfl Ev.move ?_
          refine Seq.p rfl (Ev.faB fd.api_Tag_0) ?_
          refine Seq.p rfl (Ev.ldB sc.int) ?_
          refine Seq.p rfl (Ev.faB fd.api_Tag_1) ?_
          refine Seq.p rfl (Ev.ldB sc.string) ?_
          refine Seq.call rfl (fun w' hw => by have h := textField (n := (xs[i]!).tag.toNat) g2 hvs (hL.upd hw); rw [← hfl2, g1] at h; exact h) (F := _) (by exact List.Perm.refl _) ?_
          rintro _ _ ⟨A41, c41, rfl, rfl⟩
          simp only [List.cons_append, List.nil_append]
          refine Seq.append (hsl := sl.sl_uint8) (he := el.uint8) (hH := At.s (At.s At.z)) (hsrc := fun w' hw => Src.rsl sl.sl_uint8 (RAt.up (RAt.own (enc := byteEnc) (xs := fl)) hw) (by omega) byteOne) (k := ?_); intro A42 c42
          rw [← bytesC_append (.slice A42 (m.length + fl.length) c42) m fl _ rfl, ← List.length_append]
          refine Seq.p rfl Ev.assign ?_
          refine Seq.nil ?_
          refine JC.reg ?_
          refine Seq.p rfl (by first | exact Ev.inc | exact Ev.add) ?_
          refine Seq.p rfl Ev.move ?_
          refine Seq.nil ?_
          exact ⟨i + 1, [bytesC (.slice A42 (m ++ fl).length c42) (m ++ fl), bytesC (.slice none 0 0) []], (by repeat (first | exact Part.nil _ | refine Part.at (by repeat (first | exact At.z | apply At.s)) ?_)), ⟨A42, c42, m ++ fl, Has.mk (by repeat (first | refine Off.upd ?_ rfl | exact Off.mix | refine Off.mix2 ?_ rfl | exact Off.refl)) (allLook_cons (by repeat (first | exact Look.here | apply Look.there (hne := rfl) | exact Look.const | apply Look.mix rfl | exact Look.arg0 | apply Look.args | exact Look.func)) (allLook_cons (by repeat (first | exact Look.here | apply Look.there (hne := rfl) | exact Look.const | apply Look.mix rfl | exact Look.arg0 | apply Look.args | exact Look.func)) allLook_nil)), rfl, by omega, by rw [← h4]; exact he, hbs.symm⟩, by omega⟩
      · -- else_t24
        obtain rfl : i = xs.length := by omega
        obtain rfl : m = body := by rw [hm, hbody]; exact bodyTo_all kind xs
        rw [List.take_length, List.drop_length] at he
        have h3 : ¬ encE [] xs ≠ 0 := fun h => h (by rw [← he]; rfl)
        refine JC.exit ?_ -- 1
        refine JC.rs ?_
        refine Seq.p rfl Ev.move ?_
        refine Seq.p rfl (Ev.lenSl sl.sl_uint8 (hr := RAt.own (enc := byteEnc) (xs := m))) ?_
        refine Seq.callP rfl (fun w hw => hit ▸ textItoa (by omega) (by omega) (hL.upd hw)) ?_
        refine Seq.p rfl (Ev.addStr (h := by rw [hdz]; show 10 + _ ≤ _; omega)) ?_
        refine Seq.strBytes (hs := st.string) (hd := sl.sl_uint8) (he := it.uint8) (hsz := by show (beginS ++ decS m.length).size ≤ _; omega) (k := ?_); intro b48 c48
        rw [hss, hbo]
        refine Seq.buildSlN _ (hsl := sl.sl_uint8) (hz := z.uint8) (k := ?_); intro b49
        refine Seq.re (fun w h => Upd.boxOwn h (n := 1) (size := 1) At.z rfl (by omega)) ?_
        refine Seq.p rfl Ev.move ?_
        refine Seq.buildSlN [_, _, _] (hsl := sl.sl_sl_uint8) (hz := z.sl_uint8) (k := ?_); intro b51
        obtain ⟨ps, hps⟩ : ∃ ps : List Sb, ps = [⟨.slice (some ⟨b48, 0, none⟩) ds.length c48, ds⟩, ⟨.slice (some ⟨b49, 0, none⟩) 1 1, [1]⟩, ⟨.slice A m.length c, m⟩] := ⟨_, rfl⟩
        have hpf : ps.flatMap (·.l) = front := by rw [hps, hfe]; simp [List.flatMap_cons]
        refine Seq.call rfl (fun w' hw => by
          have h7 := concatBytes (w := w') (v := .slice (some ⟨b51, 0, none⟩) 3 3) (ps := ps) (RAt.up (RAt.box (enc := Sb.enc) (xs := ps) (m := 3) (hH := At.z) (hcs := by rw [hps]; rfl) (hm := by rw [hps]; rfl) (hs := by rw [hps]; show 3 ≤ 4611686018427387904; decide)) hw) (by
            intro p hp
            rw [hps] at hp
            simp only [List.mem_cons, List.not_mem_nil, or_false] at hp
            rcases hp with rfl | rfl | rfl
            · exact RAt.up (RAt.own (enc := byteEnc) (xs := ds)) hw
            · exact RAt.up (RAt.own (enc := byteEnc) (xs := [1]) (hs := by decide)) hw
            · exact RAt.up (RAt.own (enc := byteEnc) (xs := m)) hw) (by rw [hpf]; omega)
          rw [hpf] at h7
          exact h7) (F := _) (by exact List.Perm.refl _) ?_
        rintro _ _ ⟨A52, c52, rfl, rfl⟩
        simp only [List.cons_append, List.nil_append]
        refine Seq.p rfl Ev.assign ?_
        refine Seq.nil ?_
        refine JC.rs ?_
        refine Seq.p rfl Ev.move ?_
        refine Seq.p rfl Ev.move ?_
        refine Seq.callP (v := .string (strOf la)) rfl (fun w' hw => by have h := textLast (RAt.up (RAt.own (enc := byteEnc) (xs := front)) hw) hfB (hL.upd hw); rw [← hsl] at h; exact h) ?_
        refine Seq.append (hsl := sl.sl_uint8) (he := el.uint8) (hH := At.z) (hsrc := fun w' hw => Src.str st.string (strOf la) w') (h63 := by omega) (hb := by omega) (k := ?_); intro A56 c56
        rw [hslz, hslb, ← bytesC_append (.slice A56 (front.length + la.length) c56) front la _ rfl, ← List.length_append, ← hll]
        refine Seq.p rfl Ev.assign ?_
        refine Seq.nil ?_
        refine JC.seq ?_
        refine JC.rs ?_
        refine Seq.p rfl Ev.move ?_
        refine Seq.p rfl (Ev.lenSl sl.sl_uint8 (hr := RAt.own (enc := byteEnc) (xs := line))) ?_
        refine Seq.p rfl Ev.gt ?_
        refine Seq.nil ?_
        first | refine JC.c (ht := fun c59 => ?_) (hf := fun c59 => ?_) | refine JC.cb (ht := fun c59 => ?_) (hf := fun c59 => ?_)
        · -- then_t59
          refine JC.rs ?_
          refine Seq.p rfl Ev.assign ?_
          refine Seq.p rfl Ev.assign ?_
          refine Seq.nil ?_
          refine JC.ret ?_
          -- return 3
          show retQ _ _ _ _ _ _ _ _
          refine ret2 (H' := [bytesC (.slice none 0 0) []]) (hp := (by repeat (first | exact Part.nil _ | refine Part.at (by repeat (first | exact At.z | apply At.s)) ?_))) (hpost := ?_)
          rw [encF_long h1 h2 h3 (by rw [← hline]; omega)] at hef
          cases hef
          exact ⟨none, 0, rfl, rfl⟩
        · -- else_t59
          refine JC.skip ?_
          refine JC.rs ?_
          refine Seq.p rfl Ev.move ?_
          refine Seq.p rfl Ev.assign ?_
          refine Seq.p rfl Ev.assign ?_
          refine Seq.nil ?_
          refine JC.ret ?_
          -- return 4
          show retQ _ _ _ _ _ _ _ _
          refine ret2 (H' := [bytesC (.slice A56 line.length c56) line]) (hp := (by repeat (first | exact Part.nil _ | refine Part.at (by repeat (first | exact At.z | apply At.s)) ?_))) (hpost := ?_)
          rw [encF_line h1 h2 h3 (by rw [← hline]; omega), ← hline] at hef
          cases hef
          exact ⟨A56, c56, rfl, rfl⟩
end Go.Rx
/- The document's numerals and fields, as texts. -/
namespace Go.Rx
open Go Go.RowKit Go.Lib Go.Proofs.YthpejgmkiomfhaaDoor
set_option linter.unusedVariables false
set_option linter.unusedSimpArgs false
theorem decS_small {n : Nat} (h : n < 10) : decS n = strOf [48 + (n : Int)] := ba_ext (by
  rw [decS_list, decDigits_one h, strOf_toList]
  simp only [List.map_cons, List.map_nil]
  congr 2)
theorem decS_big {n : Nat} (h : ¬ n < 10) : decS n = decS (n / 10) ++ strOf [48 + (n : Int) % 10] := ba_ext (by
  rw [decS_list, decDigits, dif_neg h, ByteArray.data_append, Array.toList_append, decS_list, strOf_toList]
  simp only [List.map_cons, List.map_nil]
  congr 3)
set_option maxHeartbeats 1000000 in
set_option maxRecDepth 100000 in
theorem refDecimalStep {w : World} {n : Nat} (hn : n ≤ 18446744073709551615) (ih : ∀ m < n, ∀ w' : World, Spec Go.Proofs.Tryd.prog 23 #[.int .u64 (m : Int)] w' [] (fun u _ => u = .string (decS m))) :
    Spec Go.Proofs.Tryd.prog 23 #[.int .u64 (n : Int)] w [] (fun u _ => u = .string (decS n)) := by
  refine Spec.enter (fn := Go.Proofs.Tryd.f23) (n := 20) [.int .u64 (n : Int)] Go.Proofs.Tryd.func23 (by kernel_rfl) rfl Go.Proofs.Tryd.ntmps23 Go.Proofs.Tryd.results23 rfl (Own.nil _) ?_
  refine JC.rs ?_
  refine Seq.p rfl Ev.assign ?_
  refine Seq.nil ?_
  refine JC.seq ?_
  refine JC.rs ?_
  refine Seq.p rfl Ev.move ?_
  refine Seq.p rfl Ev.lt ?_
  refine Seq.nil ?_
  first | refine JC.c (ht := fun c4 => ?_) (hf := fun c4 => ?_) | refine JC.cb (ht := fun c4 => ?_) (hf := fun c4 => ?_)
  · -- then_t4
    refine JC.rs ?_
    refine Seq.p rfl Ev.move ?_
    refine Seq.p rfl Ev.addU' ?_
    refine Seq.p rfl (Ev.convU8 it.uint64 it.uint8) ?_
    refine Seq.buildSlN _ (hsl := sl.sl_uint8) (hz := z.uint8) (k := ?_); intro b8
    refine Seq.re (fun w h => Upd.boxOwn h (n := 1) (size := 1) At.z rfl (by omega)) ?_
    refine Seq.p rfl (Ev.strOf (l := [48 + (n : Int)]) sl.sl_uint8 it.uint8 st.string (hr := RAt.own (enc := byteEnc) (xs := [48 + (n : Int)]) (hs := by simp))) ?_
    refine Seq.p rfl Ev.assign ?_
    refine Seq.nil ?_
    refine JC.ret ?_
    -- return 0
    show retQ _ _ _ _ _ _ _ _
    refine ret1 (hp := Part.nil _) (hpost := ?_)
    rw [decS_small (by omega)]
  · -- else_t4
    have hi := fun w' => ih (n / 10) (by omega) w'
    have e10 : ((n / 10 : Nat) : Int) = (n : Int) / 10 := by omega
    simp only [e10] at hi
    have hz := decS_facts (n := n / 10) (by omega)
    refine JC.skip ?_
    refine JC.as mixed ?_
    refine Any.p 0 rfl (by kernel_rfl) (by kernel_rfl) (by kernel_rfl) rfl Ev.move ?_
    refine Any.p 1 rfl (by kernel_rfl) (by kernel_rfl) (by kernel_rfl) rfl Ev.quoU ?_
    refine Any.call 2 rfl (by kernel_rfl) (by kernel_rfl) (by kernel_rfl) rfl (fun w hw => hi _) ?_
    refine Any.p 3 rfl (by kernel_rfl) (by kernel_rfl) (by kernel_rfl) rfl Ev.move ?_
    refine Any.p 4 rfl (by kernel_rfl) (by kernel_rfl) (by kernel_rfl) rfl Ev.rem ?_
    refine Any.p 5 rfl (by kernel_rfl) (by kernel_rfl) (by kernel_rfl) rfl Ev.addU' ?_
    refine Any.p 6 rfl (by kernel_rfl) (by kernel_rfl) (by kernel_rfl) rfl (Ev.convU8 it.uint64 it.uint8) ?_
    refine Any.one 7 rfl (by kernel_rfl) ?_
    refine Seq.buildSlN _ (hsl := sl.sl_uint8) (hz := z.uint8) (k := ?_); intro b17
    refine Seq.re (fun w h => Upd.boxOwn h (n := 1) (size := 1) At.z rfl (by omega)) ?_
    refine Seq.nil ⟨(by repeat (first | exact Part.refl _ | exact Part.nil _ | apply Part.here | apply Part.skip)), ?_⟩
    refine Any.one 8 rfl (by kernel_rfl) ?_
    refine Seq.p rfl (Ev.strOf (l := [48 + (n : Int) % 10]) sl.sl_uint8 it.uint8 st.string (hr := RAt.own (enc := byteEnc) (xs := [48 + (n : Int) % 10]) (hs := by simp))) ?_
    refine Seq.nil ⟨(by repeat (first | exact Part.refl _ | exact Part.nil _ | apply Part.here | apply Part.skip)), ?_⟩
    refine Any.p 9 rfl (by kernel_rfl) (by kernel_rfl) (by kernel_rfl) rfl (Ev.addStr (h := by rw [strOf_size]; show _ + 1 ≤ _; omega)) ?_
    refine Any.p 10 rfl (by kernel_rfl) (by kernel_rfl) (by kernel_rfl) rfl Ev.assign ?_
    refine Any.done (by kernel_rfl) ?_
    refine JC.ret ?_
    -- return 1
    show retQ _ _ _ _ _ _ _ _
    refine ret1 (hp := Part.nil _) (hpost := ?_)
    rw [decS_big (n := n) (by omega)]
theorem refDecimal {w : World} {n : Nat} (hn : n ≤ 18446744073709551615) : Spec Go.Proofs.Tryd.prog 23 #[.int .u64 (n : Int)] w [] (fun u _ => u = .string (decS n)) := by
  induction n using Nat.strongRecOn generalizing w with
  | ind n ih => exact refDecimalStep hn (fun m hm w' => ih m hm (by omega))
theorem fieldS_eq (n : Nat) (v : ByteArray) : decS n ++ ⟨#[61]⟩ ++ v ++ ⟨#[1]⟩ = strOf (fieldL n v) := ba_ext (by
  unfold fieldL fldL
  rw [strOf_app, strOf_app, strOf_dec]
  simp only [ByteArray.data_append, Array.toList_append, strOf_toList, List.map_cons]
  have e : (bytesOf v).map (fun n : Int => UInt8.ofNat n.toNat) = v.data.toList := by
    have := strOf_toList (bytesOf v)
    rw [← this, strOf_bytes]
  rw [e]
  simp)
set_option maxHeartbeats 1000000 in
set_option maxRecDepth 100000 in
theorem refField {w : World} {n : Nat} {v : ByteArray} (hn : n < 10000) (hv : v.size ≤ 70368744177664) :
    Spec Go.Proofs.Tryd.prog 50 #[.int .i64 (n : Int), .string v] w [] (fun u _ => u = .string (strOf (fieldL n v))) := by
  have hd4 := decL_four hn
  have hds : (decS n).size = (decL n).length := by rw [← strOf_dec, strOf_size]
  refine Spec.enter (fn := Go.Proofs.Tryd.f50) (n := 12) [.int .i64 (n : Int), .string v] Go.Proofs.Tryd.func50 (by kernel_rfl) rfl Go.Proofs.Tryd.ntmps50 Go.Proofs.Tryd.results50 rfl (Own.nil _) ?_
  refine JC.rs ?_
  refine Seq.p rfl Ev.assign ?_
  refine Seq.nil ?_
  refine JC.rs ?_
  refine Seq.p rfl Ev.move ?_
  refine Seq.p rfl (Ev.convU64 it.int it.uint64) ?_
  refine Seq.callP rfl (fun w hw => refDecimal (by omega)) ?_
  refine Seq.p rfl (Ev.addStr (h := by rw [hds]; show _ + 1 ≤ _; omega)) ?_
  refine Seq.p rfl Ev.move ?_
  refine Seq.p rfl (Ev.addStr (h := by rw [ByteArray.size_append, hds]; show _ + 1 + _ ≤ _; omega)) ?_
  refine Seq.p rfl (Ev.addStr (h := by rw [ByteArray.size_append, ByteArray.size_append, hds]; show _ + 1 + _ + 1 ≤ _; omega)) ?_
  refine Seq.p rfl Ev.assign ?_
  refine Seq.nil ?_
  refine JC.ret ?_
  -- return 0
  show retQ _ _ _ _ _ _ _ _
  refine ret1 (hp := Part.nil _) (hpost := ?_)
  rw [fieldS_eq]
end Go.Rx
/- The document's Encode is the plain function. -/
namespace Go.Rx
open Go Go.RowKit Go.Lib Go.Proofs.YthpejgmkiomfhaaDoor
set_option linter.unusedVariables false
set_option linter.unusedSimpArgs false
abbrev brsS : ByteArray := ⟨#[66, 82, 83, 46, 49]⟩
theorem decL_one {n : Nat} (h : n < 10) : decL n = [48 + (n : Int)] := by
  unfold decL
  rw [decDigits_one h]
  simp only [List.map_cons, List.map_nil]
  have : n = 0 ∨ n = 1 ∨ n = 2 ∨ n = 3 ∨ n = 4 ∨ n = 5 ∨ n = 6 ∨ n = 7 ∨ n = 8 ∨ n = 9 := by omega
  rcases this with rfl | rfl | rfl | rfl | rfl | rfl | rfl | rfl | rfl | rfl <;> rfl
theorem decL_ten : decL 10 = [49, 48] := by
  unfold decL
  rw [decDigits_two (by decide) (by decide)]
  rfl
theorem front_eq (kind : ByteArray) (xs : List Tg) (body : List Int) (h : body = bodyL kind xs) : strOf (fieldL 8 brsS) ++ strOf (fieldL 9 (decS body.length)) ++ strOf body = strOf (frontL kind xs) := by
  rw [← strOf_app, ← strOf_app, h]
  congr 1
  unfold frontL fieldL fldL
  rw [decL_one (by decide), decL_one (by decide), bytesOf_dec]
  have e : bytesOf brsS = [66, 82, 83, 46, 49] := by decide
  rw [e]
  simp [beginL]
theorem last_eq (l : List Int) : fieldL 10 (strOf (threeL (sumB l))) = lastL l := by
  have hs := sumB_range l
  unfold fieldL fldL lastL
  rw [decL_ten, bytesOf_str (by
    intro n hn
    simp only [threeL, List.mem_cons, List.not_mem_nil, or_false] at hn
    omega)]
  rfl
theorem field_bytes (n : Nat) (v : ByteArray) : isBytes (fieldL n v) := fun y hy => by
  unfold fieldL fldL at hy
  rcases List.mem_append.1 hy with hy | hy
  · rcases List.mem_append.1 hy with hy | hy
    · exact decL_bytes _ y hy
    · rcases List.mem_cons.1 hy with rfl | hy
      · decide
      · exact bytesOf_range _ y hy
  · rw [List.mem_singleton.1 hy]; decide
theorem body_bytes (kind : ByteArray) (xs : List Tg) : isBytes (bodyL kind xs) := fun x hx => by
  unfold bodyL at hx
  rcases List.mem_append.1 hx with hx | hx
  · exact field_bytes _ _ x hx
  · obtain ⟨t, _, ht⟩ := List.mem_flatMap.1 hx
    exact field_bytes _ _ x ht
theorem refused_bad {xs : List Tg} {t : Tg} (h : (!tagB t.tag || thereB xs t.tag) = true) : refusedF xs t = 30 := if_pos h
theorem refused_val {xs : List Tg} {t : Tg} (h : (!tagB t.tag || thereB xs t.tag) = false) (h2 : valueB t.value = false) : refusedF xs t = 31 := by
  unfold refusedF
  rw [if_neg (by rw [h]; decide), if_pos (by rw [h2]; rfl)]
theorem refused_none {xs : List Tg} {t : Tg} (h : (!tagB t.tag || thereB xs t.tag) = false) (h2 : valueB t.value = true) : refusedF xs t = 0 := by
  unfold refusedF
  rw [if_neg (by rw [h]; decide), if_neg (by rw [h2]; decide)]
set_option maxHeartbeats 2000000 in
set_option maxRecDepth 100000 in
theorem refEncode {w : World} {v : Value} {kind : ByteArray} {xs : List Tg} (hr : RSl Tg.enc 2 w [] v xs) (hk : kind.size ≤ 281474976710656) (hsz : ∀ t ∈ xs, t.value.size ≤ 70368744177664) (hb : (bodyL kind xs).length ≤ 1099511627776) :
    Spec Go.Proofs.Tryd.prog 24 #[.string kind, v] w [] (fun u H' => ∃ A c, u = .tuple #[.slice A (encF kind xs).2.length c, .int .i64 (encF kind xs).1] ∧ H' = [bytesC (.slice A (encF kind xs).2.length c) (encF kind xs).2]) := by
  have hsm := hr.small
  obtain ⟨ec, eb, hef⟩ : ∃ a b, encF kind xs = (a, b) := ⟨_, _, rfl⟩
  rw [hef]
  obtain ⟨f35, hf35⟩ : ∃ f, f = fieldL 35 kind := ⟨_, rfl⟩
  obtain ⟨body, hbody⟩ : ∃ f, f = bodyL kind xs := ⟨_, rfl⟩
  obtain ⟨front, hfront⟩ : ∃ f, f = frontL kind xs := ⟨_, rfl⟩
  obtain ⟨la, hla⟩ : ∃ f, f = lastL front := ⟨_, rfl⟩
  obtain ⟨line, hline⟩ : ∃ f, f = lineL kind xs := ⟨_, rfl⟩
  have hll : line = front ++ la := by rw [hline, hla, hfront]; rfl
  have hl7 : la.length = 7 := by rw [hla]; rfl
  have hll3 : line.length = front.length + 7 := by rw [hll, List.length_append, hl7]
  have hd19 := decL_nineteen hb
  have hfl := front_len kind xs
  rw [← hfront] at hfl
  rw [← hbody] at hb hd19 hfl
  have hdz : (decS body.length).size = (decL body.length).length := by rw [← strOf_dec, strOf_size]
  have hbs0 := body_bytes kind xs
  rw [← hbody] at hbs0
  have hfB : isBytes front := by
    rw [hfront]
    unfold frontL
    rw [← hbody]
    intro x hx
    rcases List.mem_append.1 hx with hx | hx
    · rcases List.mem_append.1 hx with hx | hx
      · rcases List.mem_append.1 hx with hx | hx
        · simp only [beginL, List.mem_cons, List.not_mem_nil, or_false] at hx
          omega
        · exact decL_bytes _ x hx
      · rw [List.mem_singleton.1 hx]; decide
    · exact hbs0 x hx
  have hlB : isBytes line := by
    rw [hll]
    intro x hx
    rcases List.mem_append.1 hx with hx | hx
    · exact hfB x hx
    · rw [hla] at hx; exact isBytes_last _ x hx
  have hfe := front_eq kind xs body hbody
  rw [← hfront] at hfe
  have hle := last_eq front
  rw [← hla] at hle
  have hsm3 := sumB_range front
  have hfla : strOf front ++ strOf la = strOf line := by rw [← strOf_app, ← hll]
  have hfss : (strOf front).size = front.length := strOf_size _
  have hfbb : bytesOf (strOf front) = front := bytesOf_str hfB
  have hlss : (strOf line).size = line.length := strOf_size _
  have hlbb : bytesOf (strOf line) = line := bytesOf_str hlB
  have h9 : (fieldL 9 (decS body.length)).length = (decL body.length).length + 3 := by rw [field_len, decL_one (by decide), hdz]; simp; omega
  have h8 : (fieldL 8 brsS).length = 8 := by rw [field_len, decL_one (by decide)]; rfl
  obtain ⟨f8, hf8⟩ : ∃ f, f = fieldL 8 brsS := ⟨_, rfl⟩
  obtain ⟨f9, hf9⟩ : ∃ f, f = fieldL 9 (decS body.length) := ⟨_, rfl⟩
  rw [← hf8, ← hf9] at hfe
  rw [← hf8] at h8
  rw [← hf9] at h9
  have hs8 : ∀ w' : World, Spec Go.Proofs.Tryd.prog 50 #[.int .i64 8, .string brsS] w' [] (fun u _ => u = .string (strOf f8)) := fun w' => by
    have h := refField (w := w') (n := 8) (v := brsS) (by decide) (by decide)
    rw [← hf8] at h
    exact h
  have hs9 : ∀ w' : World, Spec Go.Proofs.Tryd.prog 50 #[.int .i64 9, .string (decS body.length)] w' [] (fun u _ => u = .string (strOf f9)) := fun w' => by
    have h := refField (w := w') (n := 9) (v := decS body.length) (by decide) (by omega)
    rw [← hf9] at h
    exact h
  have hs10 : ∀ w' : World, Spec Go.Proofs.Tryd.prog 50 #[.int .i64 10, .string (strOf (threeL (sumB front)))] w' [] (fun u _ => u = .string (strOf la)) := fun w' => by
    have h := refField (w := w') (n := 10) (v := strOf (threeL (sumB front))) (by decide) (by rw [strOf_size]; show 3 ≤ _; omega)
    rw [hle] at h
    exact h
  refine Spec.enter (fn := Go.Proofs.Tryd.f24) (n := 99) [.string kind, v] Go.Proofs.Tryd.func24 (by kernel_rfl) rfl Go.Proofs.Tryd.ntmps24 Go.Proofs.Tryd.results24 rfl (Own.nil _) ?_
  refine JC.re (fun w h => h.nilOwn 5 1) ?_
  refine JC.rs ?_
  refine Seq.p rfl Ev.assign ?_
  refine Seq.p rfl Ev.assign ?_
  refine Seq.nil ?_
  refine JC.seq ?_
  refine JC.rs ?_
  refine Seq.p rfl Ev.move ?_
  refine Seq.callP rfl (fun w hw => refKind hk) ?_
  refine Seq.p rfl Ev.not ?_
  refine Seq.nil ?_
  first | refine JC.c (ht := fun c12 => ?_) (hf := fun c12 => ?_) | refine JC.cb (ht := fun c12 => ?_) (hf := fun c12 => ?_)
  · -- then_t12
    have h1 : kindB kind = false := by simpa using c12
    refine JC.rs ?_
    refine Seq.p rfl Ev.assign ?_
    refine Seq.p rfl Ev.assign ?_
    refine Seq.nil ?_
    refine JC.ret ?_
    -- return 0
    show retQ _ _ _ _ _ _ _ _
    refine ret2 (H' := [bytesC (.slice none 0 0) []]) (hp := (by repeat (first | exact Part.nil _ | refine Part.at (by repeat (first | exact At.z | apply At.s)) ?_))) (hpost := ?_)
    rw [encF_kind h1] at hef
    cases hef
    exact ⟨none, 0, rfl, rfl⟩
  · -- else_t12
    have h1 : ¬ kindB kind = false := by simpa using c12
    refine JC.skip ?_
    refine JC.seq ?_
    refine JC.rs ?_
    refine Seq.p rfl Ev.move ?_
    refine Seq.p rfl (Ev.lenSl sl.sl_api_Tag (hr := hr.r)) ?_
    refine Seq.p rfl Ev.gt ?_
    refine Seq.nil ?_
    first | refine JC.c (ht := fun c15 => ?_) (hf := fun c15 => ?_) | refine JC.cb (ht := fun c15 => ?_) (hf := fun c15 => ?_)
    · -- then_t15
      refine JC.rs ?_
      refine Seq.p rfl Ev.assign ?_
      refine Seq.p rfl Ev.assign ?_
      refine Seq.nil ?_
      refine JC.ret ?_
      -- return 1
      show retQ _ _ _ _ _ _ _ _
      refine ret2 (H' := [bytesC (.slice none 0 0) []]) (hp := (by repeat (first | exact Part.nil _ | refine Part.at (by repeat (first | exact At.z | apply At.s)) ?_))) (hpost := ?_)
      rw [encF_many h1 (by omega)] at hef
      cases hef
      exact ⟨none, 0, rfl, rfl⟩
    · -- else_t15
      have h2 : ¬ 64 < xs.length := by omega
      refine JC.skip ?_
      refine JC.seq ?_
      refine JC.rs ?_
      refine Seq.p rfl Ev.assign ?_
      refine Seq.nil ?_
      refine JC.blk ?_
      refine JC.loop (α := Nat) (I := fun i e1 H1 => Has [4, 5, 6, 16, 17, 18, 19, 20, 21, 22, 23, 24, 25, 26, 27, 28, 29, 30, 31, 32, 33, 34, 35, 36, 37, 38, 39, 40, 41, 42, 43, 44, 45, 46] [(6, .int .i64 (i : Int))] _ e1 ∧ H1 = [bytesC (.slice none 0 0) []] ∧ i ≤ xs.length ∧ encE (xs.take i) (xs.drop i) = encE [] xs ∧ ∀ j < i, (((xs[j]!).tag.toNat : Nat) : Int) = (xs[j]!).tag ∧ (xs[j]!).tag.toNat < 10000) (μ := fun i => xs.length - i) 0 ⟨Has.mk Off.refl (allLook_cons (by repeat (first | exact Look.here | apply Look.there (hne := rfl) | exact Look.const | apply Look.mix rfl | exact Look.arg0 | apply Look.args | exact Look.func)) allLook_nil), rfl, by omega, by simp, by intro j hj; omega⟩ ?_
      rintro i _ _ ⟨⟨u, rfl⟩, rfl, hi, he, hok⟩; dsimp only [setL]
      refine JC.seq ?_
      refine JC.rs ?_
      refine Seq.p rfl Ev.move ?_
      refine Seq.p rfl Ev.move ?_
      refine Seq.p rfl (Ev.lenSl sl.sl_api_Tag (hr := hr.r)) ?_
      refine Seq.p rfl Ev.lt ?_
      refine Seq.nil ?_
      first | refine JC.c (ht := fun c19 => ?_) (hf := fun c19 => ?_) | refine JC.cb (ht := fun c19 => ?_) (hf := fun c19 => ?_)
      · -- then_t19
        have hi2 : i < xs.length := by omega
        have htake : RSl Tg.enc 2 w [] (subSl v 0 i 2) (xs.take i) := by
          have h3 := hr.sub (lo := 0) (hi := i) (by omega) (by omega)
          rwa [List.drop_zero] at h3
        have hvs := hsz _ (get_memS hi2)
        refine JC.skip ?_
        refine JC.seq ?_
        refine JC.blk ?_
        refine JC.seq ?_
        refine JC.qs mixed (by kernel_rfl) ?_
        refine Qui.p rfl Ev.move ?_
        refine Qui.p rfl Ev.move ?_
        refine Qui.p rfl (Ev.iaN sl.sl_api_Tag (hr := hr.r)) ?_
        refine Qui.p rfl (Ev.fa fd.api_Tag_0) ?_
        refine Qui.p rfl (Ev.ldE sc.int (hr := hr.r)) ?_
        refine Qui.call rfl (fun w hw => refIsTag) ?_
        refine Qui.p rfl Ev.not ?_
        refine Qui.p rfl Ev.move ?_
        refine Qui.orG (D := [29, 30, 31, 32, 33, 34, 35, 36, 37, 38, 39]) (d := 29) (t := 39) (k := 10) (hn := fun h29 => ?_) (hx := ?_)
        · repeat (first | refine Qui.gn rfl rfl rfl rfl ?_ | refine Qui.gu rfl rfl rfl ?_)
          refine Qui.p rfl Ev.pickT ?_
          exact Qui.nil ⟨(by repeat (first | with_reducible exact Off.refl | refine Off.upd ?_ rfl | exact Off.mix | refine Off.mix2 ?_ rfl)), Look.here⟩
        apply Exists.intro
        refine ⟨fun h29 => ?_, fun u39 => ?_⟩
        · try simp only [decide_eq_true_eq, decide_eq_false_iff_not, Bool.and_eq_true, Bool.or_eq_true, Bool.not_eq_true', Bool.not_eq_false', Bool.or_eq_false_iff, Bool.and_eq_false_imp] at h29
          refine Qui.gy rfl rfl rfl ?_
          refine Qui.p rfl Ev.move ?_
          refine Qui.gy rfl rfl rfl ?_
          refine Qui.p rfl Ev.move ?_
          refine Qui.gy rfl rfl rfl ?_
          refine Qui.p rfl (Ev.cut sl.sl_api_Tag (hr := hr.r) (l := 0) (h := i) (hlo := rfl) (hhi := ⟨_, (by repeat (first | exact Look.here | apply Look.there (hne := rfl) | exact Look.const | apply Look.mix rfl | exact Look.arg0 | apply Look.args | exact Look.func))⟩)) ?_
          refine Qui.gy rfl rfl rfl ?_
          refine Qui.p rfl Ev.move ?_
          refine Qui.gy rfl rfl rfl ?_
          refine Qui.p rfl Ev.move ?_
          refine Qui.gy rfl rfl rfl ?_
          refine Qui.p rfl (Ev.iaN sl.sl_api_Tag (hr := hr.r)) ?_
          refine Qui.gy rfl rfl rfl ?_
          refine Qui.p rfl (Ev.fa fd.api_Tag_0) ?_
          refine Qui.gy rfl rfl rfl ?_
          refine Qui.p rfl (Ev.ldE sc.int (hr := hr.r)) ?_
          refine Qui.gy rfl rfl rfl ?_
          refine Qui.call rfl (fun w hw => refThere (htake.up hw)) ?_
          refine Qui.p rfl Ev.pickF ?_
          exact Qui.nil ⟨(by repeat (first | with_reducible exact Off.refl | refine Off.upd ?_ rfl | exact Off.mix | refine Off.mix2 ?_ rfl)), Look.here⟩
        refine Qui.nil ?_
        first | refine JC.c (ht := fun c39 => ?_) (hf := fun c39 => ?_) | refine JC.cb (ht := fun c39 => ?_) (hf := fun c39 => ?_)
        · -- then_t39
          refine JC.rs ?_
          refine Seq.p rfl Ev.assign ?_
          refine Seq.p rfl Ev.assign ?_
          refine Seq.nil ?_
          refine JC.ret ?_
          -- return 2
          show retQ _ _ _ _ _ _ _ _
          refine ret2 (H' := [bytesC (.slice none 0 0) []]) (hp := (by repeat (first | exact Part.nil _ | refine Part.at (by repeat (first | exact At.z | apply At.s)) ?_))) (hpost := ?_)
          have h4 := encE_bad hi2 (by rw [refused_bad c39]; decide)
          rw [refused_bad c39] at h4
          rw [encF_ref h1 h2 (by rw [← he, h4]; decide), ← he, h4] at hef
          cases hef
          exact ⟨none, 0, rfl, rfl⟩
        · -- else_t39
          refine JC.skip ?_
          refine JC.rs ?_
          refine Seq.p rfl Ev.move ?_
          refine Seq.p rfl Ev.move ?_
          refine Seq.p rfl (Ev.iaN sl.sl_api_Tag (hr := hr.r)) ?_
          refine Seq.p rfl (Ev.fa fd.api_Tag_1) ?_
          refine Seq.p rfl (Ev.ldE sc.string (hr := hr.r)) ?_
          refine Seq.callP rfl (fun w hw => refIsValue (by omega)) ?_
          refine Seq.p rfl Ev.not ?_
          refine Seq.nil ?_
          first | refine JC.c (ht := fun c46 => ?_) (hf := fun c46 => ?_) | refine JC.cb (ht := fun c46 => ?_) (hf := fun c46 => ?_)
          · -- then_t46
            refine JC.rs ?_
            refine Seq.p rfl Ev.assign ?_
            refine Seq.p rfl Ev.assign ?_
            refine Seq.nil ?_
            refine JC.ret ?_
            -- return 3
            show retQ _ _ _ _ _ _ _ _
            refine ret2 (H' := [bytesC (.slice none 0 0) []]) (hp := (by repeat (first | exact Part.nil _ | refine Part.at (by repeat (first | exact At.z | apply At.s)) ?_))) (hpost := ?_)
            have hq := refused_val c39 (by simpa using c46)
            have h4 := encE_bad hi2 (by rw [hq]; decide)
            rw [hq] at h4
            rw [encF_ref h1 h2 (by rw [← he, h4]; decide), ← he, h4] at hef
            cases hef
            exact ⟨none, 0, rfl, rfl⟩
          · -- else_t46
            have hq := refused_none c39 (by simpa using c46)
            have h4 := encE_next hi2 (fun h => h hq)
            obtain ⟨q1, q2, q3⟩ := refused_ok hq
            obtain ⟨g1, g2, g3⟩ := tag_range q1
            have hok2 : ∀ j < i + 1, (((xs[j]!).tag.toNat : Nat) : Int) = (xs[j]!).tag ∧ (xs[j]!).tag.toNat < 10000 := fun j hj => by
              rcases Nat.lt_or_ge j i with h | h
              · exact hok j h
              · obtain rfl : j = i := by omega
                exact ⟨g1, g2⟩
            refine JC.skip ?_
            refine JC.reg ?_
            refine Seq.p rfl Ev.move ?_
            refine Seq.p rfl (by first | exact Ev.inc | exact Ev.add) ?_
            refine Seq.p rfl Ev.assign ?_
            refine Seq.nil ?_
            exact ⟨i + 1, _, Part.refl _, ⟨Has.mk (by repeat (first | refine Off.upd ?_ rfl | exact Off.mix | refine Off.mix2 ?_ rfl | exact Off.refl)) (allLook_cons (by repeat (first | exact Look.here | apply Look.there (hne := rfl) | exact Look.const | apply Look.mix rfl | exact Look.arg0 | apply Look.args | exact Look.func)) allLook_nil), rfl, by omega, by rw [← h4]; exact he, hok2⟩, by omega⟩
      · -- else_t19
        obtain rfl : i = xs.length := by omega
        rw [List.take_length, List.drop_length] at he
        have h3 : ¬ encE [] xs ≠ 0 := fun h => h (by rw [← he]; rfl)
        have hb0 : bodyTo kind xs 0 = f35 := by rw [hf35]; simp [bodyTo]
        have hkz : kind.size ≤ 70368744177664 := by
          have h5 := bodyTo_le kind xs 0
          rw [hb0, hf35, field_len, ← hbody] at h5
          omega
        refine JC.exit ?_ -- 0
        refine JC.rs ?_
        refine Seq.p rfl Ev.move ?_
        refine Seq.callP (v := .string (strOf f35)) rfl (fun w' hw => by have h := refField (w := w') (n := 35) (v := kind) (by decide) hkz; rw [← hf35] at h; exact h) ?_
        refine Seq.p rfl Ev.assign ?_
        refine Seq.nil ?_
        refine JC.seq ?_
        refine JC.rs ?_
        refine Seq.p rfl Ev.assign ?_
        refine Seq.nil ?_
        refine JC.blk ?_
        refine JC.loop (α := Nat) (I := fun i e1 H1 => ∃ m, Has [4, 5, 7, 8, 49, 50, 51, 52, 53, 54, 55, 56, 57, 58, 59, 60, 61, 62, 63, 64, 65, 66, 67, 68, 69, 70, 71, 72, 73, 74, 75, 76, 77] [(7, .string (strOf m)), (8, .int .i64 (i : Int))] _ e1 ∧ H1 = [bytesC (.slice none 0 0) []] ∧ i ≤ xs.length ∧ m = bodyTo kind xs i) (μ := fun i => xs.length - i) 0 ⟨f35, Has.mk Off.refl (allLook_cons (by repeat (first | exact Look.here | apply Look.there (hne := rfl) | exact Look.const | apply Look.mix rfl | exact Look.arg0 | apply Look.args | exact Look.func)) (allLook_cons (by repeat (first | exact Look.here | apply Look.there (hne := rfl) | exact Look.const | apply Look.mix rfl | exact Look.arg0 | apply Look.args | exact Look.func)) allLook_nil)), rfl, by omega, hb0.symm⟩ ?_
        rintro i _ _ ⟨m, ⟨u, rfl⟩, rfl, hi, hm⟩; dsimp only [setL]
        refine JC.seq ?_
        refine JC.rs ?_
        refine Seq.p rfl Ev.move ?_
        refine Seq.p rfl Ev.move ?_
        refine Seq.p rfl (Ev.lenSl sl.sl_api_Tag (hr := hr.r)) ?_
        refine Seq.p rfl Ev.lt ?_
        refine Seq.nil ?_
        first | refine JC.c (ht := fun c52 => ?_) (hf := fun c52 => ?_) | refine JC.cb (ht := fun c52 => ?_) (hf := fun c52 => ?_)
        · -- then_t52
          have hi2 : i < xs.length := by omega
          have hvs := hsz _ (get_memS hi2)
          have hms : (strOf m).size = m.length := strOf_size m
          have hml := bodyTo_le kind xs i
          rw [← hm, ← hbody] at hml
          obtain ⟨g1, g2⟩ := hok i hi2
          have hbs := bodyTo_succ (kind := kind) hi2
          have hbl := bodyTo_le kind xs (i + 1)
          obtain ⟨fl, hfl2⟩ : ∃ f, f = fieldL (xs[i]!).tag.toNat (xs[i]!).value := ⟨_, rfl⟩
          rw [← hm, ← hfl2] at hbs
          rw [hbs, List.length_append, ← hbody] at hbl
          have hflz : (strOf fl).size = fl.length := strOf_size fl
          have hfll : (xs[i]!).value.size < fl.length := by rw [hfl2, field_len]; omega
          have hspec : ∀ w' : World, Spec Go.Proofs.Tryd.prog 50 #[.int .i64 (xs[i]!).tag, .string (xs[i]!).value] w' [] (fun u _ => u = .string (strOf fl)) := fun w' => by
            have h := refField (w := w') g2 hvs
            rw [g1, ← hfl2] at h
            exact h
          refine JC.skip ?_
          refine JC.seq ?_
          refine JC.blk ?_
          refine JC.seq ?_
          refine JC.rs ?_
          refine Seq.p rfl Ev.move ?_
          refine Seq.p rfl (Ev.lenStr st.string) ?_
          refine Seq.p rfl Ev.move ?_
          refine Seq.p rfl Ev.move ?_
          refine Seq.p rfl (Ev.iaN sl.sl_api_Tag (hr := hr.r)) ?_
          refine Seq.p rfl (Ev.fa fd.api_Tag_1) ?_
          refine Seq.p rfl (Ev.ldE sc.string (hr := hr.r)) ?_
          refine Seq.p rfl (Ev.lenStr st.string) ?_
          refine Seq.p rfl (Ev.addN (m := (strOf m).size) (c := (xs[i]!).value.size)) ?_
          refine Seq.p rfl Ev.gt ?_
          refine Seq.nil ?_
          first | refine JC.c (ht := fun c64 => ?_) (hf := fun c64 => ?_) | refine JC.cb (ht := fun c64 => ?_) (hf := fun c64 => ?_)
          · -- then_t64
            refine JC.rs ?_
            refine Seq.p rfl Ev.assign ?_
            refine Seq.p rfl Ev.assign ?_
            refine Seq.nil ?_
            refine JC.ret ?_
            -- return 4
            show retQ _ _ _ _ _ _ _ _
            refine ret2 (H' := [bytesC (.slice none 0 0) []]) (hp := (by repeat (first | exact Part.nil _ | refine Part.at (by repeat (first | exact At.z | apply At.s)) ?_))) (hpost := ?_)
            rw [encF_long h1 h2 h3 (by rw [← hline]; omega)] at hef
            cases hef
            exact ⟨none, 0, rfl, rfl⟩
          · -- else_t64
            refine JC.skip ?_
            refine JC.quiet mixed (by kernel_rfl) ?_
            refine Qui.p rfl Ev.move ?_
            refine Qui.p rfl Ev.move ?_
            refine Qui.p rfl Ev.move ?_
            refine Qui.p rfl (Ev.iaN sl.sl_api_Tag (hr := hr.r)) ?_
            refine Qui.p rfl (Ev.fa fd.api_Tag_0) ?_
            refine Qui.p rfl (Ev.ldE sc.int (hr := hr.r)) ?_
            refine Qui.p rfl Ev.move ?_
            refine Qui.p rfl Ev.move ?_
            refine Qui.p rfl (Ev.iaN sl.sl_api_Tag (hr := hr.r)) ?_
            refine Qui.p rfl (Ev.fa fd.api_Tag_1) ?_
            refine Qui.p rfl (Ev.ldE sc.string (hr := hr.r)) ?_
            refine Qui.call rfl (fun w hw => hspec _) ?_
            refine Qui.p rfl Ev.addStr ?_
            refine Qui.p rfl Ev.assign ?_
            refine Qui.nil ?_
            refine JC.reg ?_
            refine Seq.p rfl Ev.move ?_
            refine Seq.p rfl (by first | exact Ev.inc | exact Ev.add) ?_
            refine Seq.p rfl Ev.assign ?_
            refine Seq.nil ?_
            exact ⟨i + 1, _, Part.refl _, ⟨m ++ fl, Has.mk (by repeat (first | refine Off.upd ?_ rfl | exact Off.mix | refine Off.mix2 ?_ rfl | exact Off.refl)) (allLook_cons (by rw [strOf_app]; exact (by repeat (first | exact Look.here | apply Look.there (hne := rfl) | exact Look.const | apply Look.mix rfl | exact Look.arg0 | apply Look.args | exact Look.func))) (allLook_cons (by repeat (first | exact Look.here | apply Look.there (hne := rfl) | exact Look.const | apply Look.mix rfl | exact Look.arg0 | apply Look.args | exact Look.func)) allLook_nil)), rfl, by omega, hbs.symm⟩, by omega⟩
        · -- else_t52
          obtain rfl : i = xs.length := by omega
          obtain rfl : m = body := by rw [hm, hbody]; exact bodyTo_all kind xs
          have hms : (strOf m).size = m.length := strOf_size m
          refine JC.exit ?_ -- 2
          refine JC.rs ?_
          refine Seq.callP (v := .string (strOf f8)) rfl (fun w' hw => hs8 w') ?_
          refine Seq.p rfl Ev.move ?_
          refine Seq.p rfl (Ev.lenStr st.string) ?_
          rw [hms]
          refine Seq.p rfl (Ev.convU64 it.int it.uint64) ?_
          refine Seq.callP rfl (fun w hw => refDecimal (by omega)) ?_
          refine Seq.callP (v := .string (strOf f9)) rfl (fun w' hw => hs9 w') ?_
          refine Seq.p rfl (Ev.addStr (h := by rw [strOf_size, strOf_size, h8, h9]; omega)) ?_
          refine Seq.p rfl Ev.move ?_
          refine Seq.p rfl (Ev.addStr (h := by rw [ByteArray.size_append, strOf_size, strOf_size, strOf_size, h8, h9]; omega)) ?_
          rw [hfe]
          refine Seq.p rfl Ev.assign ?_
          refine Seq.nil ?_
          refine JC.rs ?_
          refine Seq.p rfl Ev.move ?_
          refine Seq.p rfl Ev.move ?_
          refine Seq.strBytes (hs := st.string) (hd := sl.sl_uint8) (he := it.uint8) (hsz := by omega) (k := ?_); intro b89 c89
          rw [hfss, hfbb]
          refine Seq.callP rfl (fun w hw => refSum (RAt.up (RAt.own (enc := byteEnc) (xs := front)) hw) hfB) ?_
          refine Seq.callP rfl (fun w hw => refThree hsm3) ?_
          refine Seq.callP (v := .string (strOf la)) rfl (fun w' hw => hs10 w') ?_
          refine Seq.p rfl (Ev.addStr (h := by rw [hfss, strOf_size, hl7]; omega)) ?_
          rw [hfla]
          refine Seq.p rfl Ev.assign ?_
          refine Seq.nil ?_
          refine JC.seq ?_
          refine JC.rs ?_
          refine Seq.p rfl Ev.move ?_
          refine Seq.p rfl (Ev.lenStr st.string) ?_
          refine Seq.p rfl Ev.gt ?_
          refine Seq.nil ?_
          first | refine JC.c (ht := fun c96 => ?_) (hf := fun c96 => ?_) | refine JC.cb (ht := fun c96 => ?_) (hf := fun c96 => ?_)
          · -- then_t96
            refine JC.rs ?_
            refine Seq.p rfl Ev.assign ?_
            refine Seq.p rfl Ev.assign ?_
            refine Seq.nil ?_
            refine JC.ret ?_
            -- return 5
            show retQ _ _ _ _ _ _ _ _
            refine ret2 (H' := [bytesC (.slice none 0 0) []]) (hp := (by repeat (first | exact Part.nil _ | refine Part.at (by repeat (first | exact At.z | apply At.s)) ?_))) (hpost := ?_)
            rw [encF_long h1 h2 h3 (by rw [← hline]; omega)] at hef
            cases hef
            exact ⟨none, 0, rfl, rfl⟩
          · -- else_t96
            refine JC.skip ?_
            refine JC.rs ?_
            refine Seq.p rfl Ev.move ?_
            refine Seq.strBytes (hs := st.string) (hd := sl.sl_uint8) (he := it.uint8) (hsz := by omega) (k := ?_); intro b98 c98
            rw [hlss, hlbb]
            refine Seq.p rfl Ev.assign ?_
            refine Seq.p rfl Ev.assign ?_
            refine Seq.nil ?_
            refine JC.ret ?_
            -- return 6
            show retQ _ _ _ _ _ _ _ _
            refine ret2 (H' := [bytesC (.slice (some ⟨b98, 0, none⟩) line.length c98) line]) (hp := (by repeat (first | exact Part.nil _ | refine Part.at (by repeat (first | exact At.z | apply At.s)) ?_))) (hpost := ?_)
            rw [encF_line h1 h2 h3 (by rw [← hline]; omega), ← hline] at hef
            cases hef
            exact ⟨_, c98, rfl, rfl⟩
end Go.Rx
namespace Go.Rx
open Go Go.RowKit
set_option linter.unusedVariables false
set_option linter.unusedSimpArgs false
structure Event where
  seq : Int
  kind : Int
  id : Int
  other : Int
  target : Int
  member : Int
  side : Int
  type : Int
  price : Int
  qty : Int
  peak : Int
  reason : Int
  code : Int
deriving DecidableEq, Inhabited
def Event.enc (e : Event) : List Value := [.int .u64 e.seq, .int .i64 e.kind, .int .u64 e.id, .int .u64 e.other, .int .u64 e.target, .int .u32 e.member, .int .i64 e.side, .int .i64 e.type, .int .i64 e.price, .int .u64 e.qty, .int .u64 e.peak, .int .i64 e.reason, .int .i64 e.code]
theorem Event.eqL_enc (x y : Event) : eqL x.enc y.enc = decide (x = y) := by
  cases x; cases y
  simp [Event.enc, eqL, eqV, Bool.decide_and]
def eventOfF (k : Int) (ms : List (Int × Int)) : Event :=
  ⟨iget ms 34, k, iget ms 11, iget ms 37, iget ms 41, iget ms 1 % 4294967296, s64 (iget ms 54), s64 (iget ms 40), s64 (iget ms 44), iget ms 38, iget ms 210, s64 (iget ms 378), s64 (iget ms 103)⟩
def eventValueF (e : Event) (t : Int) : Int × Bool :=
  if t = 34 then (e.seq, true) else if t = 11 then (e.id, true) else if t = 41 then (e.target, true) else if t = 37 then (e.other, true) else if t = 1 then (e.member % 18446744073709551616, true) else if t = 38 then (e.qty, true) else if t = 210 then (e.peak, true)
  else
    let n := if t = 54 then e.side else if t = 40 then e.type else if t = 44 then e.price else if t = 378 then e.reason else if t = 103 then e.code else 0
    (n % 18446744073709551616, decide (0 ≤ n))
def withEventF (e : Event) (t n : Int) : Event :=
  if t = 34 then { e with seq := n } else if t = 11 then { e with id := n } else if t = 41 then { e with target := n } else if t = 37 then { e with other := n } else if t = 1 then { e with member := n % 4294967296 } else if t = 38 then { e with qty := n } else if t = 210 then { e with peak := n }
  else if t = 54 then { e with side := s64 n } else if t = 40 then { e with type := s64 n } else if t = 44 then { e with price := s64 n } else if t = 378 then { e with reason := s64 n } else if t = 103 then { e with code := s64 n } else e
set_option maxHeartbeats 2000000 in
theorem msgEventOf {w : World} {k : Int} {v : Value} {ms : List (Int × Int)} (hm : RMp .i64 .u64 w [] v ms) : Spec Go.Proofs.Tryd.prog 54 #[.int .i64 k, v] w [] (fun u _ => u = .agg (eventOfF k ms).enc.toArray) := by
  refine Spec.enter (fn := Go.Proofs.Tryd.f54) (n := 37) [.int .i64 k, v] Go.Proofs.Tryd.func54 (by kernel_rfl) rfl Go.Proofs.Tryd.ntmps54 Go.Proofs.Tryd.results54 rfl (Own.nil _) ?_
  refine JC.rs ?_
  refine Seq.alloc (cs := [_, _, _, _, _, _, _, _, _, _, _, _, _]) (hz := z.api_Event) (k := ?_); intro b4
  refine Seq.nil ?_
  refine JC.rs ?_
  refine Seq.p rfl Ev.move ?_
  refine Seq.p rfl (Ev.mapI mp.m_int_uint64 z.uint64 hm.r) ?_
  refine Seq.p rfl Ev.move ?_
  refine Seq.p rfl Ev.move ?_
  refine Seq.p rfl (Ev.mapI mp.m_int_uint64 z.uint64 hm.r) ?_
  refine Seq.p rfl Ev.move ?_
  refine Seq.p rfl (Ev.mapI mp.m_int_uint64 z.uint64 hm.r) ?_
  refine Seq.p rfl Ev.move ?_
  refine Seq.p rfl (Ev.mapI mp.m_int_uint64 z.uint64 hm.r) ?_
  refine Seq.p rfl Ev.move ?_
  refine Seq.p rfl (Ev.mapI mp.m_int_uint64 z.uint64 hm.r) ?_
  refine Seq.p rfl (Ev.convU32W it.uint64 it.uint32) ?_
  refine Seq.p rfl Ev.move ?_
  refine Seq.p rfl (Ev.mapI mp.m_int_uint64 z.uint64 hm.r) ?_
  refine Seq.p rfl (Ev.convW it.uint64 it.int) ?_
  refine Seq.p rfl Ev.move ?_
  refine Seq.p rfl (Ev.mapI mp.m_int_uint64 z.uint64 hm.r) ?_
  refine Seq.p rfl (Ev.convW it.uint64 it.int) ?_
  refine Seq.p rfl Ev.move ?_
  refine Seq.p rfl (Ev.mapI mp.m_int_uint64 z.uint64 hm.r) ?_
  refine Seq.p rfl (Ev.convW it.uint64 it.int) ?_
  refine Seq.p rfl Ev.move ?_
  refine Seq.p rfl (Ev.mapI mp.m_int_uint64 z.uint64 hm.r) ?_
  refine Seq.p rfl Ev.move ?_
  refine Seq.p rfl (Ev.mapI mp.m_int_uint64 z.uint64 hm.r) ?_
  refine Seq.p rfl Ev.move ?_
  refine Seq.p rfl (Ev.mapI mp.m_int_uint64 z.uint64 hm.r) ?_
  refine Seq.p rfl (Ev.convW it.uint64 it.int) ?_
  refine Seq.p rfl Ev.move ?_
  refine Seq.p rfl (Ev.mapI mp.m_int_uint64 z.uint64 hm.r) ?_
  refine Seq.p rfl (Ev.convW it.uint64 it.api_Errno) ?_
  refine Seq.p rfl (Ev.buildS [_, _, _, _, _, _, _, _, _, _, _, _, _] pl.api_Event z.api_Event) ?_
  refine Seq.storeN [_, _, _, _, _, _, _, _, _, _, _, _, _] sz.api_Event (k := ?_)
  refine Seq.nil ?_
  refine JC.ret ?_
  -- return 0
  show retQ _ _ _ _ _ _ _ _
  refine retB1 ag.api_Event (hp := Part.nil _) (hpost := ?_)
  rfl
set_option maxHeartbeats 4000000 in
theorem refEventValue {w : World} {e : Event} {t : Int} : Spec Go.Proofs.Tryd.prog 58 #[.agg e.enc.toArray, .int .i64 t] w [] (fun u _ => u = .tuple #[.int .u64 (eventValueF e t).1, .bool (eventValueF e t).2]) := by
  refine Spec.enter (fn := Go.Proofs.Tryd.f58) (n := 61) [.agg e.enc.toArray, .int .i64 t] Go.Proofs.Tryd.func58 (by kernel_rfl) rfl Go.Proofs.Tryd.ntmps58 Go.Proofs.Tryd.results58 rfl (Own.nil _) ?_
  refine JC.rs ?_
  refine Seq.box (cs := [_, _, _, _, _, _, _, _, _, _, _, _, _]) (k := ?_); intro b2
  refine Seq.p rfl Ev.assign ?_
  refine Seq.p rfl Ev.assign ?_
  refine Seq.nil ?_
  refine JC.rs ?_
  refine Seq.p rfl Ev.assign ?_
  refine Seq.nil ?_
  refine JC.seq ?_
  refine JC.rs ?_
  refine Seq.p rfl Ev.move ?_
  refine Seq.nil ?_
  refine JC.blk ?_
  refine JC.rs ?_
  refine Seq.p rfl Ev.eq ?_
  refine Seq.p rfl Ev.assign ?_
  refine Seq.nil ?_
  first | refine JC.c (ht := fun c8 => ?_) (hf := fun c8 => ?_) | refine JC.cb (ht := fun c8 => ?_) (hf := fun c8 => ?_)
  · -- then_t8
    refine JC.rs ?_
    refine Seq.p rfl (Ev.faB fd.api_Event_0) ?_
    refine Seq.p rfl (Ev.ldB sc.uint64) ?_
    refine Seq.p rfl Ev.assign ?_
    refine Seq.p rfl Ev.assign ?_
    refine Seq.nil ?_
    refine JC.ret ?_
    -- return 0
    show retQ _ _ _ _ _ _ _ _
    refine ret2 (hp := Part.nil _) (hpost := ?_)
    simp [eventValueF, *]
  · -- else_t8
    refine JC.rs ?_
    refine Seq.p rfl Ev.eq ?_
    refine Seq.p rfl Ev.assign ?_
    refine Seq.nil ?_
    first | refine JC.c (ht := fun c12 => ?_) (hf := fun c12 => ?_) | refine JC.cb (ht := fun c12 => ?_) (hf := fun c12 => ?_)
    · -- then_t12
      refine JC.rs ?_
      refine Seq.p rfl (Ev.faB fd.api_Event_2) ?_
      refine Seq.p rfl (Ev.ldB sc.uint64) ?_
      refine Seq.p rfl Ev.assign ?_
      refine Seq.p rfl Ev.assign ?_
      refine Seq.nil ?_
      refine JC.ret ?_
      -- return 1
      show retQ _ _ _ _ _ _ _ _
      refine ret2 (hp := Part.nil _) (hpost := ?_)
      simp [eventValueF, *]
    · -- else_t12
      refine JC.rs ?_
      refine Seq.p rfl Ev.eq ?_
      refine Seq.p rfl Ev.assign ?_
      refine Seq.nil ?_
      first | refine JC.c (ht := fun c16 => ?_) (hf := fun c16 => ?_) | refine JC.cb (ht := fun c16 => ?_) (hf := fun c16 => ?_)
      · -- then_t16
        refine JC.rs ?_
        refine Seq.p rfl (Ev.faB fd.api_Event_4) ?_
        refine Seq.p rfl (Ev.ldB sc.uint64) ?_
        refine Seq.p rfl Ev.assign ?_
        refine Seq.p rfl Ev.assign ?_
        refine Seq.nil ?_
        refine JC.ret ?_
        -- return 2
        show retQ _ _ _ _ _ _ _ _
        refine ret2 (hp := Part.nil _) (hpost := ?_)
        simp [eventValueF, *]
      · -- else_t16
        refine JC.rs ?_
        refine Seq.p rfl Ev.eq ?_
        refine Seq.p rfl Ev.assign ?_
        refine Seq.nil ?_
        first | refine JC.c (ht := fun c20 => ?_) (hf := fun c20 => ?_) | refine JC.cb (ht := fun c20 => ?_) (hf := fun c20 => ?_)
        · -- then_t20
          refine JC.rs ?_
          refine Seq.p rfl (Ev.faB fd.api_Event_3) ?_
          refine Seq.p rfl (Ev.ldB sc.uint64) ?_
          refine Seq.p rfl Ev.assign ?_
          refine Seq.p rfl Ev.assign ?_
          refine Seq.nil ?_
          refine JC.ret ?_
          -- return 3
          show retQ _ _ _ _ _ _ _ _
          refine ret2 (hp := Part.nil _) (hpost := ?_)
          simp [eventValueF, *]
        · -- else_t20
          refine JC.rs ?_
          refine Seq.p rfl Ev.eq ?_
          refine Seq.p rfl Ev.assign ?_
          refine Seq.nil ?_
          first | refine JC.c (ht := fun c24 => ?_) (hf := fun c24 => ?_) | refine JC.cb (ht := fun c24 => ?_) (hf := fun c24 => ?_)
          · -- then_t24
            refine JC.rs ?_
            refine Seq.p rfl (Ev.faB fd.api_Event_5) ?_
            refine Seq.p rfl (Ev.ldB sc.uint32) ?_
            refine Seq.p rfl (Ev.convU64W it.uint32 it.uint64) ?_
            refine Seq.p rfl Ev.assign ?_
            refine Seq.p rfl Ev.assign ?_
            refine Seq.nil ?_
            refine JC.ret ?_
            -- return 4
            show retQ _ _ _ _ _ _ _ _
            refine ret2 (hp := Part.nil _) (hpost := ?_)
            simp [eventValueF, *]
          · -- else_t24
            refine JC.rs ?_
            refine Seq.p rfl Ev.eq ?_
            refine Seq.p rfl Ev.assign ?_
            refine Seq.nil ?_
            first | refine JC.c (ht := fun c29 => ?_) (hf := fun c29 => ?_) | refine JC.cb (ht := fun c29 => ?_) (hf := fun c29 => ?_)
            · -- then_t29
              refine JC.rs ?_
              refine Seq.p rfl (Ev.faB fd.api_Event_9) ?_
              refine Seq.p rfl (Ev.ldB sc.uint64) ?_
              refine Seq.p rfl Ev.assign ?_
              refine Seq.p rfl Ev.assign ?_
              refine Seq.nil ?_
              refine JC.ret ?_
              -- return 5
              show retQ _ _ _ _ _ _ _ _
              refine ret2 (hp := Part.nil _) (hpost := ?_)
              simp [eventValueF, *]
            · -- else_t29
              refine JC.rs ?_
              refine Seq.p rfl Ev.eq ?_
              refine Seq.p rfl Ev.assign ?_
              refine Seq.nil ?_
              first | refine JC.c (ht := fun c33 => ?_) (hf := fun c33 => ?_) | refine JC.cb (ht := fun c33 => ?_) (hf := fun c33 => ?_)
              · -- then_t33
                refine JC.rs ?_
                refine Seq.p rfl (Ev.faB fd.api_Event_10) ?_
                refine Seq.p rfl (Ev.ldB sc.uint64) ?_
                refine Seq.p rfl Ev.assign ?_
                refine Seq.p rfl Ev.assign ?_
                refine Seq.nil ?_
                refine JC.ret ?_
                -- return 6
                show retQ _ _ _ _ _ _ _ _
                refine ret2 (hp := Part.nil _) (hpost := ?_)
                simp [eventValueF, *]
              · -- else_t33
                refine JC.rs ?_
                refine Seq.p rfl Ev.eq ?_
                refine Seq.p rfl Ev.assign ?_
                refine Seq.nil ?_
                first | refine JC.c (ht := fun c37 => ?_) (hf := fun c37 => ?_) | refine JC.cb (ht := fun c37 => ?_) (hf := fun c37 => ?_)
                · -- then_t37
                  refine JC.reg ?_
                  refine Seq.p rfl (Ev.faB fd.api_Event_6) ?_
                  refine Seq.p rfl (Ev.ldB sc.int) ?_
                  refine Seq.p rfl Ev.assign ?_
                  refine Seq.nil ?_
                  refine JC.rs ?_
                  refine Seq.p rfl Ev.move ?_
                  refine Seq.p rfl (Ev.convU64W it.int it.uint64) ?_
                  refine Seq.p rfl Ev.move ?_
                  refine Seq.p rfl Ev.ge ?_
                  refine Seq.p rfl Ev.assign ?_
                  refine Seq.p rfl Ev.assign ?_
                  refine Seq.nil ?_
                  refine JC.ret ?_
                  -- return 7
                  show retQ _ _ _ _ _ _ _ _
                  refine ret2 (hp := Part.nil _) (hpost := ?_)
                  simp [eventValueF, *]
                · -- else_t37
                  refine JC.rs ?_
                  refine Seq.p rfl Ev.eq ?_
                  refine Seq.p rfl Ev.assign ?_
                  refine Seq.nil ?_
                  first | refine JC.c (ht := fun c41 => ?_) (hf := fun c41 => ?_) | refine JC.cb (ht := fun c41 => ?_) (hf := fun c41 => ?_)
                  · -- then_t41
                    refine JC.reg ?_
                    refine Seq.p rfl (Ev.faB fd.api_Event_7) ?_
                    refine Seq.p rfl (Ev.ldB sc.int) ?_
                    refine Seq.p rfl Ev.assign ?_
                    refine Seq.nil ?_
                    refine JC.rs ?_
                    refine Seq.p rfl Ev.move ?_
                    refine Seq.p rfl (Ev.convU64W it.int it.uint64) ?_
                    refine Seq.p rfl Ev.move ?_
                    refine Seq.p rfl Ev.ge ?_
                    refine Seq.p rfl Ev.assign ?_
                    refine Seq.p rfl Ev.assign ?_
                    refine Seq.nil ?_
                    refine JC.ret ?_
                    -- return 8
                    show retQ _ _ _ _ _ _ _ _
                    refine ret2 (hp := Part.nil _) (hpost := ?_)
                    simp [eventValueF, *]
                  · -- else_t41
                    refine JC.rs ?_
                    refine Seq.p rfl Ev.eq ?_
                    refine Seq.p rfl Ev.assign ?_
                    refine Seq.nil ?_
                    first | refine JC.c (ht := fun c45 => ?_) (hf := fun c45 => ?_) | refine JC.cb (ht := fun c45 => ?_) (hf := fun c45 => ?_)
                    · -- then_t45
                      refine JC.reg ?_
                      refine Seq.p rfl (Ev.faB fd.api_Event_8) ?_
                      refine Seq.p rfl (Ev.ldB sc.int) ?_
                      refine Seq.p rfl Ev.assign ?_
                      refine Seq.nil ?_
                      refine JC.rs ?_
                      refine Seq.p rfl Ev.move ?_
                      refine Seq.p rfl (Ev.convU64W it.int it.uint64) ?_
                      refine Seq.p rfl Ev.move ?_
                      refine Seq.p rfl Ev.ge ?_
                      refine Seq.p rfl Ev.assign ?_
                      refine Seq.p rfl Ev.assign ?_
                      refine Seq.nil ?_
                      refine JC.ret ?_
                      -- return 9
                      show retQ _ _ _ _ _ _ _ _
                      refine ret2 (hp := Part.nil _) (hpost := ?_)
                      simp [eventValueF, *]
                    · -- else_t45
                      refine JC.rs ?_
                      refine Seq.p rfl Ev.eq ?_
                      refine Seq.p rfl Ev.assign ?_
                      refine Seq.nil ?_
                      first | refine JC.c (ht := fun c49 => ?_) (hf := fun c49 => ?_) | refine JC.cb (ht := fun c49 => ?_) (hf := fun c49 => ?_)
                      · -- then_t49
                        refine JC.reg ?_
                        refine Seq.p rfl (Ev.faB fd.api_Event_11) ?_
                        refine Seq.p rfl (Ev.ldB sc.int) ?_
                        refine Seq.p rfl Ev.assign ?_
                        refine Seq.nil ?_
                        refine JC.rs ?_
                        refine Seq.p rfl Ev.move ?_
                        refine Seq.p rfl (Ev.convU64W it.int it.uint64) ?_
                        refine Seq.p rfl Ev.move ?_
                        refine Seq.p rfl Ev.ge ?_
                        refine Seq.p rfl Ev.assign ?_
                        refine Seq.p rfl Ev.assign ?_
                        refine Seq.nil ?_
                        refine JC.ret ?_
                        -- return 10
                        show retQ _ _ _ _ _ _ _ _
                        refine ret2 (hp := Part.nil _) (hpost := ?_)
                        simp [eventValueF, *]
                      · -- else_t49
                        refine JC.rs ?_
                        refine Seq.p rfl Ev.eq ?_
                        refine Seq.p rfl Ev.assign ?_
                        refine Seq.nil ?_
                        first | refine JC.c (ht := fun c53 => ?_) (hf := fun c53 => ?_) | refine JC.cb (ht := fun c53 => ?_) (hf := fun c53 => ?_)
                        · -- then_t53
                          refine JC.reg ?_
                          refine Seq.p rfl (Ev.faB fd.api_Event_12) ?_
                          refine Seq.p rfl (Ev.ldB sc.api_Errno) ?_
                          refine Seq.p rfl Ev.assign ?_
                          refine Seq.nil ?_
                          refine JC.rs ?_
                          refine Seq.p rfl Ev.move ?_
                          refine Seq.p rfl (Ev.convU64W it.int it.uint64) ?_
                          refine Seq.p rfl Ev.move ?_
                          refine Seq.p rfl Ev.ge ?_
                          refine Seq.p rfl Ev.assign ?_
                          refine Seq.p rfl Ev.assign ?_
                          refine Seq.nil ?_
                          refine JC.ret ?_
                          -- return 11
                          show retQ _ _ _ _ _ _ _ _
                          refine ret2 (hp := Part.nil _) (hpost := ?_)
                          simp [eventValueF, *]
                        · -- else_t53
                          refine JC.skip ?_
                          refine JC.rs ?_
                          refine Seq.p rfl Ev.move ?_
                          refine Seq.p rfl (Ev.convU64W it.int it.uint64) ?_
                          refine Seq.p rfl Ev.move ?_
                          refine Seq.p rfl Ev.ge ?_
                          refine Seq.p rfl Ev.assign ?_
                          refine Seq.p rfl Ev.assign ?_
                          refine Seq.nil ?_
                          refine JC.ret ?_
                          -- return 12
                          show retQ _ _ _ _ _ _ _ _
                          refine ret2 (hp := Part.nil _) (hpost := ?_)
                          simp [eventValueF, *]
set_option maxHeartbeats 4000000 in
theorem refWithEvent {w : World} {e : Event} {t n : Int} : Spec Go.Proofs.Tryd.prog 59 #[.agg e.enc.toArray, .int .i64 t, .int .u64 n] w [] (fun u _ => u = .agg (withEventF e t n).enc.toArray) := by
  refine Spec.enter (fn := Go.Proofs.Tryd.f59) (n := 63) [.agg e.enc.toArray, .int .i64 t, .int .u64 n] Go.Proofs.Tryd.func59 (by kernel_rfl) rfl Go.Proofs.Tryd.ntmps59 Go.Proofs.Tryd.results59 rfl (Own.nil _) ?_
  refine JC.rs ?_
  refine Seq.box (cs := [_, _, _, _, _, _, _, _, _, _, _, _, _]) (k := ?_); intro b3
  refine Seq.alloc (cs := [_, _, _, _, _, _, _, _, _, _, _, _, _]) (hz := z.api_Event) (k := ?_); intro b6
  refine Seq.nil ?_
  refine JC.seq ?_
  refine JC.rs ?_
  refine Seq.p rfl Ev.move ?_
  refine Seq.nil ?_
  refine JC.blk ?_
  refine JC.rs ?_
  refine Seq.p rfl Ev.eq ?_
  refine Seq.p rfl Ev.assign ?_
  refine Seq.nil ?_
  first | refine JC.c (ht := fun c8 => ?_) (hf := fun c8 => ?_) | refine JC.cb (ht := fun c8 => ?_) (hf := fun c8 => ?_)
  · -- then_t8
    refine JC.reg ?_
    refine Seq.p rfl Ev.move ?_
    refine Seq.p rfl (Ev.faB fd.api_Event_0) ?_
    refine Seq.storeN [_, _, _, _, _, _, _, _, _, _, _, _, _] sz.uint64 (k := ?_)
    refine Seq.nil ?_
    refine JC.rs ?_
    refine Seq.p rfl (Ev.ldBA ag.api_Event) ?_
    refine Seq.storeN [_, _, _, _, _, _, _, _, _, _, _, _, _] sz.api_Event (k := ?_)
    refine Seq.nil ?_
    refine JC.ret ?_
    -- return 0
    show retQ _ _ _ _ _ _ _ _
    refine retB1 ag.api_Event (hp := Part.nil _) (hpost := ?_)
    unfold withEventF
    simp only [*, if_true, if_false]
    rfl
  · -- else_t8
    refine JC.rs ?_
    refine Seq.p rfl Ev.eq ?_
    refine Seq.p rfl Ev.assign ?_
    refine Seq.nil ?_
    first | refine JC.c (ht := fun c12 => ?_) (hf := fun c12 => ?_) | refine JC.cb (ht := fun c12 => ?_) (hf := fun c12 => ?_)
    · -- then_t12
      refine JC.reg ?_
      refine Seq.p rfl Ev.move ?_
      refine Seq.p rfl (Ev.faB fd.api_Event_2) ?_
      refine Seq.storeN [_, _, _, _, _, _, _, _, _, _, _, _, _] sz.uint64 (k := ?_)
      refine Seq.nil ?_
      refine JC.rs ?_
      refine Seq.p rfl (Ev.ldBA ag.api_Event) ?_
      refine Seq.storeN [_, _, _, _, _, _, _, _, _, _, _, _, _] sz.api_Event (k := ?_)
      refine Seq.nil ?_
      refine JC.ret ?_
      -- return 1
      show retQ _ _ _ _ _ _ _ _
      refine retB1 ag.api_Event (hp := Part.nil _) (hpost := ?_)
      unfold withEventF
      simp only [*, if_true, if_false]
      rfl
    · -- else_t12
      refine JC.rs ?_
      refine Seq.p rfl Ev.eq ?_
      refine Seq.p rfl Ev.assign ?_
      refine Seq.nil ?_
      first | refine JC.c (ht := fun c16 => ?_) (hf := fun c16 => ?_) | refine JC.cb (ht := fun c16 => ?_) (hf := fun c16 => ?_)
      · -- then_t16
        refine JC.reg ?_
        refine Seq.p rfl Ev.move ?_
        refine Seq.p rfl (Ev.faB fd.api_Event_4) ?_
        refine Seq.storeN [_, _, _, _, _, _, _, _, _, _, _, _, _] sz.uint64 (k := ?_)
        refine Seq.nil ?_
        refine JC.rs ?_
        refine Seq.p rfl (Ev.ldBA ag.api_Event) ?_
        refine Seq.storeN [_, _, _, _, _, _, _, _, _, _, _, _, _] sz.api_Event (k := ?_)
        refine Seq.nil ?_
        refine JC.ret ?_
        -- return 2
        show retQ _ _ _ _ _ _ _ _
        refine retB1 ag.api_Event (hp := Part.nil _) (hpost := ?_)
        unfold withEventF
        simp only [*, if_true, if_false]
        rfl
      · -- else_t16
        refine JC.rs ?_
        refine Seq.p rfl Ev.eq ?_
        refine Seq.p rfl Ev.assign ?_
        refine Seq.nil ?_
        first | refine JC.c (ht := fun c20 => ?_) (hf := fun c20 => ?_) | refine JC.cb (ht := fun c20 => ?_) (hf := fun c20 => ?_)
        · -- then_t20
          refine JC.reg ?_
          refine Seq.p rfl Ev.move ?_
          refine Seq.p rfl (Ev.faB fd.api_Event_3) ?_
          refine Seq.storeN [_, _, _, _, _, _, _, _, _, _, _, _, _] sz.uint64 (k := ?_)
          refine Seq.nil ?_
          refine JC.rs ?_
          refine Seq.p rfl (Ev.ldBA ag.api_Event) ?_
          refine Seq.storeN [_, _, _, _, _, _, _, _, _, _, _, _, _] sz.api_Event (k := ?_)
          refine Seq.nil ?_
          refine JC.ret ?_
          -- return 3
          show retQ _ _ _ _ _ _ _ _
          refine retB1 ag.api_Event (hp := Part.nil _) (hpost := ?_)
          unfold withEventF
          simp only [*, if_true, if_false]
          rfl
        · -- else_t20
          refine JC.rs ?_
          refine Seq.p rfl Ev.eq ?_
          refine Seq.p rfl Ev.assign ?_
          refine Seq.nil ?_
          first | refine JC.c (ht := fun c24 => ?_) (hf := fun c24 => ?_) | refine JC.cb (ht := fun c24 => ?_) (hf := fun c24 => ?_)
          · -- then_t24
            refine JC.reg ?_
            refine Seq.p rfl Ev.move ?_
            refine Seq.p rfl (Ev.convU32W it.uint64 it.uint32) ?_
            refine Seq.p rfl (Ev.faB fd.api_Event_5) ?_
            refine Seq.storeN [_, _, _, _, _, _, _, _, _, _, _, _, _] sz.uint32 (k := ?_)
            refine Seq.nil ?_
            refine JC.rs ?_
            refine Seq.p rfl (Ev.ldBA ag.api_Event) ?_
            refine Seq.storeN [_, _, _, _, _, _, _, _, _, _, _, _, _] sz.api_Event (k := ?_)
            refine Seq.nil ?_
            refine JC.ret ?_
            -- return 4
            show retQ _ _ _ _ _ _ _ _
            refine retB1 ag.api_Event (hp := Part.nil _) (hpost := ?_)
            unfold withEventF
            simp only [*, if_true, if_false]
            rfl
          · -- else_t24
            refine JC.rs ?_
            refine Seq.p rfl Ev.eq ?_
            refine Seq.p rfl Ev.assign ?_
            refine Seq.nil ?_
            first | refine JC.c (ht := fun c29 => ?_) (hf := fun c29 => ?_) | refine JC.cb (ht := fun c29 => ?_) (hf := fun c29 => ?_)
            · -- then_t29
              refine JC.reg ?_
              refine Seq.p rfl Ev.move ?_
              refine Seq.p rfl (Ev.faB fd.api_Event_9) ?_
              refine Seq.storeN [_, _, _, _, _, _, _, _, _, _, _, _, _] sz.uint64 (k := ?_)
              refine Seq.nil ?_
              refine JC.rs ?_
              refine Seq.p rfl (Ev.ldBA ag.api_Event) ?_
              refine Seq.storeN [_, _, _, _, _, _, _, _, _, _, _, _, _] sz.api_Event (k := ?_)
              refine Seq.nil ?_
              refine JC.ret ?_
              -- return 5
              show retQ _ _ _ _ _ _ _ _
              refine retB1 ag.api_Event (hp := Part.nil _) (hpost := ?_)
              unfold withEventF
              simp only [*, if_true, if_false]
              rfl
            · -- else_t29
              refine JC.rs ?_
              refine Seq.p rfl Ev.eq ?_
              refine Seq.p rfl Ev.assign ?_
              refine Seq.nil ?_
              first | refine JC.c (ht := fun c33 => ?_) (hf := fun c33 => ?_) | refine JC.cb (ht := fun c33 => ?_) (hf := fun c33 => ?_)
              · -- then_t33
                refine JC.reg ?_
                refine Seq.p rfl Ev.move ?_
                refine Seq.p rfl (Ev.faB fd.api_Event_10) ?_
                refine Seq.storeN [_, _, _, _, _, _, _, _, _, _, _, _, _] sz.uint64 (k := ?_)
                refine Seq.nil ?_
                refine JC.rs ?_
                refine Seq.p rfl (Ev.ldBA ag.api_Event) ?_
                refine Seq.storeN [_, _, _, _, _, _, _, _, _, _, _, _, _] sz.api_Event (k := ?_)
                refine Seq.nil ?_
                refine JC.ret ?_
                -- return 6
                show retQ _ _ _ _ _ _ _ _
                refine retB1 ag.api_Event (hp := Part.nil _) (hpost := ?_)
                unfold withEventF
                simp only [*, if_true, if_false]
                rfl
              · -- else_t33
                refine JC.rs ?_
                refine Seq.p rfl Ev.eq ?_
                refine Seq.p rfl Ev.assign ?_
                refine Seq.nil ?_
                first | refine JC.c (ht := fun c37 => ?_) (hf := fun c37 => ?_) | refine JC.cb (ht := fun c37 => ?_) (hf := fun c37 => ?_)
                · -- then_t37
                  refine JC.reg ?_
                  refine Seq.p rfl Ev.move ?_
                  refine Seq.p rfl (Ev.convW it.uint64 it.int) ?_
                  refine Seq.p rfl (Ev.faB fd.api_Event_6) ?_
                  refine Seq.storeN [_, _, _, _, _, _, _, _, _, _, _, _, _] sz.int (k := ?_)
                  refine Seq.nil ?_
                  refine JC.rs ?_
                  refine Seq.p rfl (Ev.ldBA ag.api_Event) ?_
                  refine Seq.storeN [_, _, _, _, _, _, _, _, _, _, _, _, _] sz.api_Event (k := ?_)
                  refine Seq.nil ?_
                  refine JC.ret ?_
                  -- return 7
                  show retQ _ _ _ _ _ _ _ _
                  refine retB1 ag.api_Event (hp := Part.nil _) (hpost := ?_)
                  unfold withEventF
                  simp only [*, if_true, if_false]
                  rfl
                · -- else_t37
                  refine JC.rs ?_
                  refine Seq.p rfl Ev.eq ?_
                  refine Seq.p rfl Ev.assign ?_
                  refine Seq.nil ?_
                  first | refine JC.c (ht := fun c42 => ?_) (hf := fun c42 => ?_) | refine JC.cb (ht := fun c42 => ?_) (hf := fun c42 => ?_)
                  · -- then_t42
                    refine JC.reg ?_
                    refine Seq.p rfl Ev.move ?_
                    refine Seq.p rfl (Ev.convW it.uint64 it.int) ?_
                    refine Seq.p rfl (Ev.faB fd.api_Event_7) ?_
                    refine Seq.storeN [_, _, _, _, _, _, _, _, _, _, _, _, _] sz.int (k := ?_)
                    refine Seq.nil ?_
                    refine JC.rs ?_
                    refine Seq.p rfl (Ev.ldBA ag.api_Event) ?_
                    refine Seq.storeN [_, _, _, _, _, _, _, _, _, _, _, _, _] sz.api_Event (k := ?_)
                    refine Seq.nil ?_
                    refine JC.ret ?_
                    -- return 8
                    show retQ _ _ _ _ _ _ _ _
                    refine retB1 ag.api_Event (hp := Part.nil _) (hpost := ?_)
                    unfold withEventF
                    simp only [*, if_true, if_false]
                    rfl
                  · -- else_t42
                    refine JC.rs ?_
                    refine Seq.p rfl Ev.eq ?_
                    refine Seq.p rfl Ev.assign ?_
                    refine Seq.nil ?_
                    first | refine JC.c (ht := fun c47 => ?_) (hf := fun c47 => ?_) | refine JC.cb (ht := fun c47 => ?_) (hf := fun c47 => ?_)
                    · -- then_t47
                      refine JC.reg ?_
                      refine Seq.p rfl Ev.move ?_
                      refine Seq.p rfl (Ev.convW it.uint64 it.int) ?_
                      refine Seq.p rfl (Ev.faB fd.api_Event_8) ?_
                      refine Seq.storeN [_, _, _, _, _, _, _, _, _, _, _, _, _] sz.int (k := ?_)
                      refine Seq.nil ?_
                      refine JC.rs ?_
                      refine Seq.p rfl (Ev.ldBA ag.api_Event) ?_
                      refine Seq.storeN [_, _, _, _, _, _, _, _, _, _, _, _, _] sz.api_Event (k := ?_)
                      refine Seq.nil ?_
                      refine JC.ret ?_
                      -- return 9
                      show retQ _ _ _ _ _ _ _ _
                      refine retB1 ag.api_Event (hp := Part.nil _) (hpost := ?_)
                      unfold withEventF
                      simp only [*, if_true, if_false]
                      rfl
                    · -- else_t47
                      refine JC.rs ?_
                      refine Seq.p rfl Ev.eq ?_
                      refine Seq.p rfl Ev.assign ?_
                      refine Seq.nil ?_
                      first | refine JC.c (ht := fun c52 => ?_) (hf := fun c52 => ?_) | refine JC.cb (ht := fun c52 => ?_) (hf := fun c52 => ?_)
                      · -- then_t52
                        refine JC.reg ?_
                        refine Seq.p rfl Ev.move ?_
                        refine Seq.p rfl (Ev.convW it.uint64 it.int) ?_
                        refine Seq.p rfl (Ev.faB fd.api_Event_11) ?_
                        refine Seq.storeN [_, _, _, _, _, _, _, _, _, _, _, _, _] sz.int (k := ?_)
                        refine Seq.nil ?_
                        refine JC.rs ?_
                        refine Seq.p rfl (Ev.ldBA ag.api_Event) ?_
                        refine Seq.storeN [_, _, _, _, _, _, _, _, _, _, _, _, _] sz.api_Event (k := ?_)
                        refine Seq.nil ?_
                        refine JC.ret ?_
                        -- return 10
                        show retQ _ _ _ _ _ _ _ _
                        refine retB1 ag.api_Event (hp := Part.nil _) (hpost := ?_)
                        unfold withEventF
                        simp only [*, if_true, if_false]
                        rfl
                      · -- else_t52
                        refine JC.rs ?_
                        refine Seq.p rfl Ev.eq ?_
                        refine Seq.p rfl Ev.assign ?_
                        refine Seq.nil ?_
                        first | refine JC.c (ht := fun c57 => ?_) (hf := fun c57 => ?_) | refine JC.cb (ht := fun c57 => ?_) (hf := fun c57 => ?_)
                        · -- then_t57
                          refine JC.reg ?_
                          refine Seq.p rfl Ev.move ?_
                          refine Seq.p rfl (Ev.convW it.uint64 it.api_Errno) ?_
                          refine Seq.p rfl (Ev.faB fd.api_Event_12) ?_
                          refine Seq.storeN [_, _, _, _, _, _, _, _, _, _, _, _, _] sz.api_Errno (k := ?_)
                          refine Seq.nil ?_
                          refine JC.rs ?_
                          refine Seq.p rfl (Ev.ldBA ag.api_Event) ?_
                          refine Seq.storeN [_, _, _, _, _, _, _, _, _, _, _, _, _] sz.api_Event (k := ?_)
                          refine Seq.nil ?_
                          refine JC.ret ?_
                          -- return 11
                          show retQ _ _ _ _ _ _ _ _
                          refine retB1 ag.api_Event (hp := Part.nil _) (hpost := ?_)
                          unfold withEventF
                          simp only [*, if_true, if_false]
                          rfl
                        · -- else_t57
                          refine JC.skip ?_
                          refine JC.rs ?_
                          refine Seq.p rfl (Ev.ldBA ag.api_Event) ?_
                          refine Seq.storeN [_, _, _, _, _, _, _, _, _, _, _, _, _] sz.api_Event (k := ?_)
                          refine Seq.nil ?_
                          refine JC.ret ?_
                          -- return 12
                          show retQ _ _ _ _ _ _ _ _
                          refine retB1 ag.api_Event (hp := Part.nil _) (hpost := ?_)
                          unfold withEventF
                          simp only [*, if_true, if_false]
                          rfl
end Go.Rx
namespace Go.Rx
open Go Go.RowKit
set_option linter.unusedVariables false
set_option linter.unusedSimpArgs false
def evFields1 (e : Event) : List Fld := [wholeF 34 e.seq, wholeF 11 e.id, wholeF 1 (e.member % 18446744073709551616), upToF 54 e.side 255, upToF 40 e.type 255, upToF 44 e.price 4294967295, wholeF 38 e.qty, wholeF 210 e.peak]
def evFields2 (e : Event) : List Fld := [wholeF 34 e.seq, wholeF 11 e.id, wholeF 41 e.target, upToF 103 e.code 4294967295]
def evFields3 (e : Event) : List Fld := [wholeF 34 e.seq, wholeF 11 e.id, wholeF 37 e.other, upToF 54 e.side 255, upToF 44 e.price 4294967295, wholeF 38 e.qty]
def evFields4 (e : Event) : List Fld := [wholeF 34 e.seq, wholeF 11 e.id, wholeF 38 e.qty, upToF 378 e.reason 255]
def evFields5 (e : Event) : List Fld := [wholeF 34 e.seq, wholeF 11 e.id, upToF 44 e.price 4294967295, wholeF 38 e.qty]
def evFieldsF (e : Event) : Option (List Fld) :=
  if e.kind = 1 then some (evFields1 e) else if e.kind = 2 then some (evFields2 e) else if e.kind = 3 then some (evFields3 e) else if e.kind = 4 then some (evFields4 e) else if e.kind = 5 then some (evFields5 e) else none
def EvPost (o : Option (List Fld)) (u : Value) (N : List Chunk) : Prop :=
  match o with
  | none => u = .tuple #[.slice none 0 0, .bool false]
  | some fs => ∃ A c, u = .tuple #[.slice A fs.length c, .bool true] ∧ N = [.own 92 3 (.slice A fs.length c) fs.length (fs.flatMap Fld.enc)]
set_option maxHeartbeats 4000000 in
set_option maxRecDepth 100000 in
theorem msgEventFields {w : World} {e : Event} : Spec Go.Proofs.Tryd.prog 53 #[.agg e.enc.toArray] w [] (EvPost (evFieldsF e)) := by
  refine Spec.enter (fn := Go.Proofs.Tryd.f53) (n := 100) [.agg e.enc.toArray] Go.Proofs.Tryd.func53 (by kernel_rfl) rfl Go.Proofs.Tryd.ntmps53 Go.Proofs.Tryd.results53 rfl (Own.nil _) ?_
  refine JC.rs ?_
  refine Seq.box (cs := [_, _, _, _, _, _, _, _, _, _, _, _, _]) (k := ?_); intro b1
  refine Seq.p rfl Ev.assign ?_
  refine Seq.p rfl Ev.assign ?_
  refine Seq.nil ?_
  refine JC.rs ?_
  refine Seq.p rfl (Ev.faB fd.api_Event_0) ?_
  refine Seq.p rfl (Ev.ldB sc.uint64) ?_
  refine Seq.callP rfl (fun w hw => msgWhole) ?_
  refine Seq.buildSlN [_, _, _] (hsl := sl.sl_message_field) (hz := z.message_field) (k := ?_); intro b8
  refine Seq.re (fun w h => Upd.boxOwn h (n := 1) (size := 3) At.z rfl (by omega)) ?_
  refine Seq.p rfl Ev.assign ?_
  refine Seq.nil ?_
  refine JC.seq ?_
  refine JC.rs ?_
  refine Seq.p rfl (Ev.faB fd.api_Event_1) ?_
  refine Seq.p rfl (Ev.ldB sc.int) ?_
  refine Seq.nil ?_
  refine JC.blk ?_
  refine JC.rs ?_
  refine Seq.p rfl Ev.eq ?_
  refine Seq.p rfl Ev.assign ?_
  refine Seq.nil ?_
  first | refine JC.c (ht := fun c11 => ?_) (hf := fun c11 => ?_) | refine JC.cb (ht := fun c11 => ?_) (hf := fun c11 => ?_)
  · -- then_t11
    refine JC.asE 0 mixed ?_
    refine Any.p 0 rfl (by kernel_rfl) (by kernel_rfl) (by kernel_rfl) rfl Ev.move ?_
    refine Any.p 1 rfl (by kernel_rfl) (by kernel_rfl) (by kernel_rfl) rfl (Ev.faB fd.api_Event_2) ?_
    refine Any.p 2 rfl (by kernel_rfl) (by kernel_rfl) (by kernel_rfl) rfl (Ev.ldB sc.uint64) ?_
    refine Any.call 3 rfl (by kernel_rfl) (by kernel_rfl) (by kernel_rfl) rfl (fun w hw => msgWhole) ?_
    refine Any.p 4 rfl (by kernel_rfl) (by kernel_rfl) (by kernel_rfl) rfl (Ev.faB fd.api_Event_5) ?_
    refine Any.p 5 rfl (by kernel_rfl) (by kernel_rfl) (by kernel_rfl) rfl (Ev.ldB sc.uint32) ?_
    refine Any.p 6 rfl (by kernel_rfl) (by kernel_rfl) (by kernel_rfl) rfl (Ev.convU64W it.uint32 it.uint64) ?_
    refine Any.call 7 rfl (by kernel_rfl) (by kernel_rfl) (by kernel_rfl) rfl (fun w hw => msgWhole) ?_
    refine Any.p 8 rfl (by kernel_rfl) (by kernel_rfl) (by kernel_rfl) rfl (Ev.faB fd.api_Event_6) ?_
    refine Any.p 9 rfl (by kernel_rfl) (by kernel_rfl) (by kernel_rfl) rfl (Ev.ldB sc.int) ?_
    refine Any.call 10 rfl (by kernel_rfl) (by kernel_rfl) (by kernel_rfl) rfl (fun w hw => msgUpTo) ?_
    refine Any.p 11 rfl (by kernel_rfl) (by kernel_rfl) (by kernel_rfl) rfl (Ev.faB fd.api_Event_7) ?_
    refine Any.p 12 rfl (by kernel_rfl) (by kernel_rfl) (by kernel_rfl) rfl (Ev.ldB sc.int) ?_
    refine Any.call 13 rfl (by kernel_rfl) (by kernel_rfl) (by kernel_rfl) rfl (fun w hw => msgUpTo) ?_
    refine Any.p 14 rfl (by kernel_rfl) (by kernel_rfl) (by kernel_rfl) rfl (Ev.faB fd.api_Event_8) ?_
    refine Any.p 15 rfl (by kernel_rfl) (by kernel_rfl) (by kernel_rfl) rfl (Ev.ldB sc.int) ?_
    refine Any.call 16 rfl (by kernel_rfl) (by kernel_rfl) (by kernel_rfl) rfl (fun w hw => msgUpTo) ?_
    refine Any.p 17 rfl (by kernel_rfl) (by kernel_rfl) (by kernel_rfl) rfl (Ev.faB fd.api_Event_9) ?_
    refine Any.p 18 rfl (by kernel_rfl) (by kernel_rfl) (by kernel_rfl) rfl (Ev.ldB sc.uint64) ?_
    refine Any.call 19 rfl (by kernel_rfl) (by kernel_rfl) (by kernel_rfl) rfl (fun w hw => msgWhole) ?_
    refine Any.p 20 rfl (by kernel_rfl) (by kernel_rfl) (by kernel_rfl) rfl (Ev.faB fd.api_Event_10) ?_
    refine Any.p 21 rfl (by kernel_rfl) (by kernel_rfl) (by kernel_rfl) rfl (Ev.ldB sc.uint64) ?_
    refine Any.call 22 rfl (by kernel_rfl) (by kernel_rfl) (by kernel_rfl) rfl (fun w hw => msgWhole) ?_
    refine Any.one 23 rfl (by kernel_rfl) ?_
    refine Seq.buildSlS [_, _, _, _, _, _, _, _, _, _, _, _, _, _, _, _, _, _, _, _, _] (hsl := sl.sl_message_field) (hz := z.message_field) (k := ?_); intro b36
    refine Seq.nil ⟨(by repeat (first | exact Part.refl _ | exact Part.nil _ | apply Part.here | apply Part.skip)), ?_⟩
    refine Any.one 24 rfl (by kernel_rfl) ?_
    refine Seq.append (hsl := sl.sl_message_field) (he := el.message_field) (hsrc := (fun w' hw => Src.box (hl := by rfl) (hc := fun q u hu => hu) sl.sl_message_field At.z hw)) (k := ?_); intro A37 c37
    refine Seq.nil ⟨(by repeat (first | exact Part.refl _ | exact Part.nil _ | apply Part.here | apply Part.skip)), ?_⟩
    refine Any.p 25 rfl (by kernel_rfl) (by kernel_rfl) (by kernel_rfl) rfl Ev.assign ?_
    refine Any.p 26 rfl (by kernel_rfl) (by kernel_rfl) (by kernel_rfl) rfl Ev.assign ?_
    refine Any.done (by kernel_rfl) ?_
    refine JC.ret ?_
    -- return 0
    show retQ _ _ _ _ _ _ _ _
    refine ret2 (hp := Part.skip (Part.here (Part.nil _))) (hpost := ?_)
    have hF : evFieldsF e = some (evFields1 e) := by rw [evFieldsF, if_pos c11]
    rw [hF]
    exact ⟨_, _, rfl, rfl⟩
  · -- else_t11
    refine JC.rs ?_
    refine Seq.p rfl Ev.eq ?_
    refine Seq.p rfl Ev.assign ?_
    refine Seq.nil ?_
    first | refine JC.c (ht := fun c38 => ?_) (hf := fun c38 => ?_) | refine JC.cb (ht := fun c38 => ?_) (hf := fun c38 => ?_)
    · -- then_t38
      refine JC.asE 0 mixed ?_
      refine Any.p 0 rfl (by kernel_rfl) (by kernel_rfl) (by kernel_rfl) rfl Ev.move ?_
      refine Any.p 1 rfl (by kernel_rfl) (by kernel_rfl) (by kernel_rfl) rfl (Ev.faB fd.api_Event_2) ?_
      refine Any.p 2 rfl (by kernel_rfl) (by kernel_rfl) (by kernel_rfl) rfl (Ev.ldB sc.uint64) ?_
      refine Any.call 3 rfl (by kernel_rfl) (by kernel_rfl) (by kernel_rfl) rfl (fun w hw => msgWhole) ?_
      refine Any.p 4 rfl (by kernel_rfl) (by kernel_rfl) (by kernel_rfl) rfl (Ev.faB fd.api_Event_4) ?_
      refine Any.p 5 rfl (by kernel_rfl) (by kernel_rfl) (by kernel_rfl) rfl (Ev.ldB sc.uint64) ?_
      refine Any.call 6 rfl (by kernel_rfl) (by kernel_rfl) (by kernel_rfl) rfl (fun w hw => msgWhole) ?_
      refine Any.p 7 rfl (by kernel_rfl) (by kernel_rfl) (by kernel_rfl) rfl (Ev.faB fd.api_Event_12) ?_
      refine Any.p 8 rfl (by kernel_rfl) (by kernel_rfl) (by kernel_rfl) rfl (Ev.ldB sc.api_Errno) ?_
      refine Any.call 9 rfl (by kernel_rfl) (by kernel_rfl) (by kernel_rfl) rfl (fun w hw => msgUpTo) ?_
      refine Any.one 10 rfl (by kernel_rfl) ?_
      refine Seq.buildSlN [_, _, _, _, _, _, _, _, _] (hsl := sl.sl_message_field) (hz := z.message_field) (k := ?_); intro b50
      refine Seq.nil ⟨(by repeat (first | exact Part.refl _ | exact Part.nil _ | apply Part.here | apply Part.skip)), ?_⟩
      refine Any.one 11 rfl (by kernel_rfl) ?_
      refine Seq.append (hsl := sl.sl_message_field) (he := el.message_field) (hsrc := (fun w' hw => Src.box (hl := by rfl) (hc := fun q u hu => hu) sl.sl_message_field At.z hw)) (k := ?_); intro A51 c51
      refine Seq.nil ⟨(by repeat (first | exact Part.refl _ | exact Part.nil _ | apply Part.here | apply Part.skip)), ?_⟩
      refine Any.p 12 rfl (by kernel_rfl) (by kernel_rfl) (by kernel_rfl) rfl Ev.assign ?_
      refine Any.p 13 rfl (by kernel_rfl) (by kernel_rfl) (by kernel_rfl) rfl Ev.assign ?_
      refine Any.done (by kernel_rfl) ?_
      refine JC.ret ?_
      -- return 1
      show retQ _ _ _ _ _ _ _ _
      refine ret2 (hp := Part.skip (Part.here (Part.nil _))) (hpost := ?_)
      have hF : evFieldsF e = some (evFields2 e) := by rw [evFieldsF, if_neg c11, if_pos c38]
      rw [hF]
      exact ⟨_, _, rfl, rfl⟩
    · -- else_t38
      refine JC.rs ?_
      refine Seq.p rfl Ev.eq ?_
      refine Seq.p rfl Ev.assign ?_
      refine Seq.nil ?_
      first | refine JC.c (ht := fun c52 => ?_) (hf := fun c52 => ?_) | refine JC.cb (ht := fun c52 => ?_) (hf := fun c52 => ?_)
      · -- then_t52
        refine JC.asE 0 mixed ?_
        refine Any.p 0 rfl (by kernel_rfl) (by kernel_rfl) (by kernel_rfl) rfl Ev.move ?_
        refine Any.p 1 rfl (by kernel_rfl) (by kernel_rfl) (by kernel_rfl) rfl (Ev.faB fd.api_Event_2) ?_
        refine Any.p 2 rfl (by kernel_rfl) (by kernel_rfl) (by kernel_rfl) rfl (Ev.ldB sc.uint64) ?_
        refine Any.call 3 rfl (by kernel_rfl) (by kernel_rfl) (by kernel_rfl) rfl (fun w hw => msgWhole) ?_
        refine Any.p 4 rfl (by kernel_rfl) (by kernel_rfl) (by kernel_rfl) rfl (Ev.faB fd.api_Event_3) ?_
        refine Any.p 5 rfl (by kernel_rfl) (by kernel_rfl) (by kernel_rfl) rfl (Ev.ldB sc.uint64) ?_
        refine Any.call 6 rfl (by kernel_rfl) (by kernel_rfl) (by kernel_rfl) rfl (fun w hw => msgWhole) ?_
        refine Any.p 7 rfl (by kernel_rfl) (by kernel_rfl) (by kernel_rfl) rfl (Ev.faB fd.api_Event_6) ?_
        refine Any.p 8 rfl (by kernel_rfl) (by kernel_rfl) (by kernel_rfl) rfl (Ev.ldB sc.int) ?_
        refine Any.call 9 rfl (by kernel_rfl) (by kernel_rfl) (by kernel_rfl) rfl (fun w hw => msgUpTo) ?_
        refine Any.p 10 rfl (by kernel_rfl) (by kernel_rfl) (by kernel_rfl) rfl (Ev.faB fd.api_Event_8) ?_
        refine Any.p 11 rfl (by kernel_rfl) (by kernel_rfl) (by kernel_rfl) rfl (Ev.ldB sc.int) ?_
        refine Any.call 12 rfl (by kernel_rfl) (by kernel_rfl) (by kernel_rfl) rfl (fun w hw => msgUpTo) ?_
        refine Any.p 13 rfl (by kernel_rfl) (by kernel_rfl) (by kernel_rfl) rfl (Ev.faB fd.api_Event_9) ?_
        refine Any.p 14 rfl (by kernel_rfl) (by kernel_rfl) (by kernel_rfl) rfl (Ev.ldB sc.uint64) ?_
        refine Any.call 15 rfl (by kernel_rfl) (by kernel_rfl) (by kernel_rfl) rfl (fun w hw => msgWhole) ?_
        refine Any.one 16 rfl (by kernel_rfl) ?_
        refine Seq.buildSlS [_, _, _, _, _, _, _, _, _, _, _, _, _, _, _] (hsl := sl.sl_message_field) (hz := z.message_field) (k := ?_); intro b70
        refine Seq.nil ⟨(by repeat (first | exact Part.refl _ | exact Part.nil _ | apply Part.here | apply Part.skip)), ?_⟩
        refine Any.one 17 rfl (by kernel_rfl) ?_
        refine Seq.append (hsl := sl.sl_message_field) (he := el.message_field) (hsrc := (fun w' hw => Src.box (hl := by rfl) (hc := fun q u hu => hu) sl.sl_message_field At.z hw)) (k := ?_); intro A71 c71
        refine Seq.nil ⟨(by repeat (first | exact Part.refl _ | exact Part.nil _ | apply Part.here | apply Part.skip)), ?_⟩
        refine Any.p 18 rfl (by kernel_rfl) (by kernel_rfl) (by kernel_rfl) rfl Ev.assign ?_
        refine Any.p 19 rfl (by kernel_rfl) (by kernel_rfl) (by kernel_rfl) rfl Ev.assign ?_
        refine Any.done (by kernel_rfl) ?_
        refine JC.ret ?_
        -- return 2
        show retQ _ _ _ _ _ _ _ _
        refine ret2 (hp := Part.skip (Part.here (Part.nil _))) (hpost := ?_)
        have hF : evFieldsF e = some (evFields3 e) := by rw [evFieldsF, if_neg c11, if_neg c38, if_pos c52]
        rw [hF]
        exact ⟨_, _, rfl, rfl⟩
      · -- else_t52
        refine JC.rs ?_
        refine Seq.p rfl Ev.eq ?_
        refine Seq.p rfl Ev.assign ?_
        refine Seq.nil ?_
        first | refine JC.c (ht := fun c72 => ?_) (hf := fun c72 => ?_) | refine JC.cb (ht := fun c72 => ?_) (hf := fun c72 => ?_)
        · -- then_t72
          refine JC.asE 0 mixed ?_
          refine Any.p 0 rfl (by kernel_rfl) (by kernel_rfl) (by kernel_rfl) rfl Ev.move ?_
          refine Any.p 1 rfl (by kernel_rfl) (by kernel_rfl) (by kernel_rfl) rfl (Ev.faB fd.api_Event_2) ?_
          refine Any.p 2 rfl (by kernel_rfl) (by kernel_rfl) (by kernel_rfl) rfl (Ev.ldB sc.uint64) ?_
          refine Any.call 3 rfl (by kernel_rfl) (by kernel_rfl) (by kernel_rfl) rfl (fun w hw => msgWhole) ?_
          refine Any.p 4 rfl (by kernel_rfl) (by kernel_rfl) (by kernel_rfl) rfl (Ev.faB fd.api_Event_9) ?_
          refine Any.p 5 rfl (by kernel_rfl) (by kernel_rfl) (by kernel_rfl) rfl (Ev.ldB sc.uint64) ?_
          refine Any.call 6 rfl (by kernel_rfl) (by kernel_rfl) (by kernel_rfl) rfl (fun w hw => msgWhole) ?_
          refine Any.p 7 rfl (by kernel_rfl) (by kernel_rfl) (by kernel_rfl) rfl (Ev.faB fd.api_Event_11) ?_
          refine Any.p 8 rfl (by kernel_rfl) (by kernel_rfl) (by kernel_rfl) rfl (Ev.ldB sc.int) ?_
          refine Any.call 9 rfl (by kernel_rfl) (by kernel_rfl) (by kernel_rfl) rfl (fun w hw => msgUpTo) ?_
          refine Any.one 10 rfl (by kernel_rfl) ?_
          refine Seq.buildSlN [_, _, _, _, _, _, _, _, _] (hsl := sl.sl_message_field) (hz := z.message_field) (k := ?_); intro b84
          refine Seq.nil ⟨(by repeat (first | exact Part.refl _ | exact Part.nil _ | apply Part.here | apply Part.skip)), ?_⟩
          refine Any.one 11 rfl (by kernel_rfl) ?_
          refine Seq.append (hsl := sl.sl_message_field) (he := el.message_field) (hsrc := (fun w' hw => Src.box (hl := by rfl) (hc := fun q u hu => hu) sl.sl_message_field At.z hw)) (k := ?_); intro A85 c85
          refine Seq.nil ⟨(by repeat (first | exact Part.refl _ | exact Part.nil _ | apply Part.here | apply Part.skip)), ?_⟩
          refine Any.p 12 rfl (by kernel_rfl) (by kernel_rfl) (by kernel_rfl) rfl Ev.assign ?_
          refine Any.p 13 rfl (by kernel_rfl) (by kernel_rfl) (by kernel_rfl) rfl Ev.assign ?_
          refine Any.done (by kernel_rfl) ?_
          refine JC.ret ?_
          -- return 3
          show retQ _ _ _ _ _ _ _ _
          refine ret2 (hp := Part.skip (Part.here (Part.nil _))) (hpost := ?_)
          have hF : evFieldsF e = some (evFields4 e) := by rw [evFieldsF, if_neg c11, if_neg c38, if_neg c52, if_pos c72]
          rw [hF]
          exact ⟨_, _, rfl, rfl⟩
        · -- else_t72
          refine JC.rs ?_
          refine Seq.p rfl Ev.eq ?_
          refine Seq.p rfl Ev.assign ?_
          refine Seq.nil ?_
          first | refine JC.c (ht := fun c86 => ?_) (hf := fun c86 => ?_) | refine JC.cb (ht := fun c86 => ?_) (hf := fun c86 => ?_)
          · -- then_t86
            refine JC.asE 0 mixed ?_
            refine Any.p 0 rfl (by kernel_rfl) (by kernel_rfl) (by kernel_rfl) rfl Ev.move ?_
            refine Any.p 1 rfl (by kernel_rfl) (by kernel_rfl) (by kernel_rfl) rfl (Ev.faB fd.api_Event_2) ?_
            refine Any.p 2 rfl (by kernel_rfl) (by kernel_rfl) (by kernel_rfl) rfl (Ev.ldB sc.uint64) ?_
            refine Any.call 3 rfl (by kernel_rfl) (by kernel_rfl) (by kernel_rfl) rfl (fun w hw => msgWhole) ?_
            refine Any.p 4 rfl (by kernel_rfl) (by kernel_rfl) (by kernel_rfl) rfl (Ev.faB fd.api_Event_8) ?_
            refine Any.p 5 rfl (by kernel_rfl) (by kernel_rfl) (by kernel_rfl) rfl (Ev.ldB sc.int) ?_
            refine Any.call 6 rfl (by kernel_rfl) (by kernel_rfl) (by kernel_rfl) rfl (fun w hw => msgUpTo) ?_
            refine Any.p 7 rfl (by kernel_rfl) (by kernel_rfl) (by kernel_rfl) rfl (Ev.faB fd.api_Event_9) ?_
            refine Any.p 8 rfl (by kernel_rfl) (by kernel_rfl) (by kernel_rfl) rfl (Ev.ldB sc.uint64) ?_
            refine Any.call 9 rfl (by kernel_rfl) (by kernel_rfl) (by kernel_rfl) rfl (fun w hw => msgWhole) ?_
            refine Any.one 10 rfl (by kernel_rfl) ?_
            refine Seq.buildSlN [_, _, _, _, _, _, _, _, _] (hsl := sl.sl_message_field) (hz := z.message_field) (k := ?_); intro b98
            refine Seq.nil ⟨(by repeat (first | exact Part.refl _ | exact Part.nil _ | apply Part.here | apply Part.skip)), ?_⟩
            refine Any.one 11 rfl (by kernel_rfl) ?_
            refine Seq.append (hsl := sl.sl_message_field) (he := el.message_field) (hsrc := (fun w' hw => Src.box (hl := by rfl) (hc := fun q u hu => hu) sl.sl_message_field At.z hw)) (k := ?_); intro A99 c99
            refine Seq.nil ⟨(by repeat (first | exact Part.refl _ | exact Part.nil _ | apply Part.here | apply Part.skip)), ?_⟩
            refine Any.p 12 rfl (by kernel_rfl) (by kernel_rfl) (by kernel_rfl) rfl Ev.assign ?_
            refine Any.p 13 rfl (by kernel_rfl) (by kernel_rfl) (by kernel_rfl) rfl Ev.assign ?_
            refine Any.done (by kernel_rfl) ?_
            refine JC.ret ?_
            -- return 4
            show retQ _ _ _ _ _ _ _ _
            refine ret2 (hp := Part.skip (Part.here (Part.nil _))) (hpost := ?_)
            have hF : evFieldsF e = some (evFields5 e) := by rw [evFieldsF, if_neg c11, if_neg c38, if_neg c52, if_neg c72, if_pos c86]
            rw [hF]
            exact ⟨_, _, rfl, rfl⟩
          · -- else_t86
            refine JC.skip ?_
            refine JC.rs ?_
            refine Seq.p rfl Ev.assign ?_
            refine Seq.p rfl Ev.assign ?_
            refine Seq.nil ?_
            refine JC.ret ?_
            -- return 5
            show retQ _ _ _ _ _ _ _ _
            refine ret2 (hp := Part.nil _) (hpost := ?_)
            have hF : evFieldsF e = none := by rw [evFieldsF, if_neg c11, if_neg c38, if_neg c52, if_neg c72, if_neg c86]
            rw [hF]
            rfl
def toldRF (k : Int) : List RF :=
  if k = 1 then [⟨34, 0, 0, 0⟩, ⟨11, 0, 1, 0⟩, ⟨1, 4294967295, 3, 0⟩, ⟨54, 255, 3, 32⟩, ⟨40, 255, 3, 40⟩, ⟨44, 4294967295, 4, 0⟩, ⟨38, 0, 5, 0⟩, ⟨210, 0, 6, 0⟩]
  else if k = 2 then [⟨34, 0, 0, 0⟩, ⟨11, 0, 1, 0⟩, ⟨41, 0, 2, 0⟩, ⟨103, 4294967295, 4, 32⟩]
  else if k = 3 then [⟨34, 0, 0, 0⟩, ⟨11, 0, 1, 0⟩, ⟨37, 0, 2, 0⟩, ⟨54, 255, 3, 32⟩, ⟨44, 4294967295, 4, 0⟩, ⟨38, 0, 5, 0⟩]
  else if k = 4 then [⟨34, 0, 0, 0⟩, ⟨11, 0, 1, 0⟩, ⟨38, 0, 5, 0⟩, ⟨378, 255, 3, 48⟩]
  else if k = 5 then [⟨34, 0, 0, 0⟩, ⟨11, 0, 1, 0⟩, ⟨44, 4294967295, 4, 0⟩, ⟨38, 0, 5, 0⟩]
  else []
set_option maxHeartbeats 4000000 in
set_option maxRecDepth 100000 in
theorem refTold {w : World} {k : Int} (hk : 1 ≤ k ∧ k ≤ 5) : Spec Go.Proofs.Tryd.prog 30 #[.int .i64 k] w [] (RowPost (toldRF k)) := by
  refine Spec.enter (fn := Go.Proofs.Tryd.f30) (n := 55) [.int .i64 k] Go.Proofs.Tryd.func30 (by kernel_rfl) rfl Go.Proofs.Tryd.ntmps30 Go.Proofs.Tryd.results30 rfl (Own.nil _) ?_
  refine JC.rs ?_
  refine Seq.p rfl Ev.assign ?_
  refine Seq.nil ?_
  refine JC.rs ?_
  refine Seq.p rfl (Ev.buildN [_, _, _, _] pl.bourseref04_field z.bourseref04_field) ?_
  refine Seq.p rfl (Ev.buildN [_, _, _, _] pl.bourseref04_field z.bourseref04_field) ?_
  refine Seq.alloc (cs := [_, _, _, _]) (hz := z.bourseref04_field) (k := ?_); intro b3
  refine Seq.alloc (cs := [_, _, _, _]) (hz := z.bourseref04_field) (k := ?_); intro b4
  refine Seq.storeN [_, _, _, _] sz.bourseref04_field (k := ?_)
  refine Seq.storeN [_, _, _, _] sz.bourseref04_field (k := ?_)
  refine Seq.nil ?_
  refine JC.rs ?_
  refine Seq.p rfl (Ev.buildN [_, _, _, _] pl.bourseref04_field z.bourseref04_field) ?_
  refine Seq.p rfl (Ev.buildN [_, _, _, _] pl.bourseref04_field z.bourseref04_field) ?_
  refine Seq.p rfl (Ev.buildN [_, _, _, _] pl.bourseref04_field z.bourseref04_field) ?_
  refine Seq.alloc (cs := [_, _, _, _]) (hz := z.bourseref04_field) (k := ?_); intro b5
  refine Seq.alloc (cs := [_, _, _, _]) (hz := z.bourseref04_field) (k := ?_); intro b6
  refine Seq.alloc (cs := [_, _, _, _]) (hz := z.bourseref04_field) (k := ?_); intro b7
  refine Seq.storeN [_, _, _, _] sz.bourseref04_field (k := ?_)
  refine Seq.storeN [_, _, _, _] sz.bourseref04_field (k := ?_)
  refine Seq.storeN [_, _, _, _] sz.bourseref04_field (k := ?_)
  refine Seq.nil ?_
  refine JC.seq ?_
  refine JC.rs ?_
  refine Seq.p rfl Ev.move ?_
  refine Seq.nil ?_
  refine JC.blk ?_
  refine JC.rs ?_
  refine Seq.p rfl Ev.eq ?_
  refine Seq.p rfl Ev.assign ?_
  refine Seq.nil ?_
  first | refine JC.c (ht := fun c14 => ?_) (hf := fun c14 => ?_) | refine JC.cb (ht := fun c14 => ?_) (hf := fun c14 => ?_)
  · -- then_t14
    refine JC.rs ?_
    refine Seq.p rfl (Ev.ldBA ag.bourseref04_field) ?_
    refine Seq.p rfl (Ev.ldBA ag.bourseref04_field) ?_
    refine Seq.p rfl (Ev.buildN [_, _, _, _] pl.bourseref04_field z.bourseref04_field) ?_
    refine Seq.p rfl (Ev.ldBA ag.bourseref04_field) ?_
    refine Seq.p rfl (Ev.buildN [_, _, _, _] pl.bourseref04_field z.bourseref04_field) ?_
    refine Seq.p rfl (Ev.ldBA ag.bourseref04_field) ?_
    refine Seq.p rfl (Ev.ldBA ag.bourseref04_field) ?_
    refine Seq.p rfl (Ev.buildN [_, _, _, _] pl.bourseref04_field z.bourseref04_field) ?_
    refine Seq.buildSlS [_, _, _, _, _, _, _, _, _, _, _, _, _, _, _, _, _, _, _, _, _, _, _, _, _, _, _, _, _, _, _, _] (hsl := sl.sl_bourseref04_field) (hz := z.bourseref04_field) (k := ?_); intro b24
    refine Seq.p rfl Ev.assign ?_
    refine Seq.nil ?_
    refine JC.ret ?_
    -- return 0
    show retQ _ _ _ _ _ _ _ _
    refine ret1 (hp := Part.here (Part.nil _)) (hpost := ?_)
    rw [toldRF, if_pos c14]
    exact ⟨_, rfl, rfl⟩
  · -- else_t14
    refine JC.rs ?_
    refine Seq.p rfl Ev.eq ?_
    refine Seq.p rfl Ev.assign ?_
    refine Seq.nil ?_
    first | refine JC.c (ht := fun c25 => ?_) (hf := fun c25 => ?_) | refine JC.cb (ht := fun c25 => ?_) (hf := fun c25 => ?_)
    · -- then_t25
      refine JC.rs ?_
      refine Seq.p rfl (Ev.ldBA ag.bourseref04_field) ?_
      refine Seq.p rfl (Ev.ldBA ag.bourseref04_field) ?_
      refine Seq.p rfl (Ev.buildN [_, _, _, _] pl.bourseref04_field z.bourseref04_field) ?_
      refine Seq.p rfl (Ev.buildN [_, _, _, _] pl.bourseref04_field z.bourseref04_field) ?_
      refine Seq.buildSlN [_, _, _, _, _, _, _, _, _, _, _, _, _, _, _, _] (hsl := sl.sl_bourseref04_field) (hz := z.bourseref04_field) (k := ?_); intro b31
      refine Seq.p rfl Ev.assign ?_
      refine Seq.nil ?_
      refine JC.ret ?_
      -- return 1
      show retQ _ _ _ _ _ _ _ _
      refine ret1 (hp := Part.here (Part.nil _)) (hpost := ?_)
      rw [toldRF, if_neg c14, if_pos c25]
      exact ⟨_, rfl, rfl⟩
    · -- else_t25
      refine JC.rs ?_
      refine Seq.p rfl Ev.eq ?_
      refine Seq.p rfl Ev.assign ?_
      refine Seq.nil ?_
      first | refine JC.c (ht := fun c32 => ?_) (hf := fun c32 => ?_) | refine JC.cb (ht := fun c32 => ?_) (hf := fun c32 => ?_)
      · -- then_t32
        refine JC.rs ?_
        refine Seq.p rfl (Ev.ldBA ag.bourseref04_field) ?_
        refine Seq.p rfl (Ev.ldBA ag.bourseref04_field) ?_
        refine Seq.p rfl (Ev.buildN [_, _, _, _] pl.bourseref04_field z.bourseref04_field) ?_
        refine Seq.p rfl (Ev.ldBA ag.bourseref04_field) ?_
        refine Seq.p rfl (Ev.ldBA ag.bourseref04_field) ?_
        refine Seq.p rfl (Ev.ldBA ag.bourseref04_field) ?_
        refine Seq.buildSlS [_, _, _, _, _, _, _, _, _, _, _, _, _, _, _, _, _, _, _, _, _, _, _, _] (hsl := sl.sl_bourseref04_field) (hz := z.bourseref04_field) (k := ?_); intro b40
        refine Seq.p rfl Ev.assign ?_
        refine Seq.nil ?_
        refine JC.ret ?_
        -- return 2
        show retQ _ _ _ _ _ _ _ _
        refine ret1 (hp := Part.here (Part.nil _)) (hpost := ?_)
        rw [toldRF, if_neg c14, if_neg c25, if_pos c32]
        exact ⟨_, rfl, rfl⟩
      · -- else_t32
        refine JC.rs ?_
        refine Seq.p rfl Ev.eq ?_
        refine Seq.p rfl Ev.assign ?_
        refine Seq.nil ?_
        first | refine JC.c (ht := fun c41 => ?_) (hf := fun c41 => ?_) | refine JC.cb (ht := fun c41 => ?_) (hf := fun c41 => ?_)
        · -- then_t41
          refine JC.rs ?_
          refine Seq.p rfl (Ev.ldBA ag.bourseref04_field) ?_
          refine Seq.p rfl (Ev.ldBA ag.bourseref04_field) ?_
          refine Seq.p rfl (Ev.ldBA ag.bourseref04_field) ?_
          refine Seq.p rfl (Ev.buildN [_, _, _, _] pl.bourseref04_field z.bourseref04_field) ?_
          refine Seq.buildSlN [_, _, _, _, _, _, _, _, _, _, _, _, _, _, _, _] (hsl := sl.sl_bourseref04_field) (hz := z.bourseref04_field) (k := ?_); intro b47
          refine Seq.p rfl Ev.assign ?_
          refine Seq.nil ?_
          refine JC.ret ?_
          -- return 3
          show retQ _ _ _ _ _ _ _ _
          refine ret1 (hp := Part.here (Part.nil _)) (hpost := ?_)
          rw [toldRF, if_neg c14, if_neg c25, if_neg c32, if_pos c41]
          exact ⟨_, rfl, rfl⟩
        · -- else_t41
          refine JC.rs ?_
          refine Seq.p rfl Ev.eq ?_
          refine Seq.p rfl Ev.assign ?_
          refine Seq.nil ?_
          first | refine JC.c (ht := fun c48 => ?_) (hf := fun c48 => ?_) | refine JC.cb (ht := fun c48 => ?_) (hf := fun c48 => ?_)
          · -- then_t48
            refine JC.rs ?_
            refine Seq.p rfl (Ev.ldBA ag.bourseref04_field) ?_
            refine Seq.p rfl (Ev.ldBA ag.bourseref04_field) ?_
            refine Seq.p rfl (Ev.ldBA ag.bourseref04_field) ?_
            refine Seq.p rfl (Ev.ldBA ag.bourseref04_field) ?_
            refine Seq.buildSlN [_, _, _, _, _, _, _, _, _, _, _, _, _, _, _, _] (hsl := sl.sl_bourseref04_field) (hz := z.bourseref04_field) (k := ?_); intro b54
            refine Seq.p rfl Ev.assign ?_
            refine Seq.nil ?_
            refine JC.ret ?_
            -- return 4
            show retQ _ _ _ _ _ _ _ _
            refine ret1 (hp := Part.here (Part.nil _)) (hpost := ?_)
            rw [toldRF, if_neg c14, if_neg c25, if_neg c32, if_neg c41, if_pos c48]
            exact ⟨_, rfl, rfl⟩
          · -- else_t48
            exfalso; omega
set_option maxHeartbeats 4000000 in
set_option maxRecDepth 100000 in
theorem refTold0 {w : World} {k : Int} (hk : ¬ (1 ≤ k ∧ k ≤ 5)) : Spec Go.Proofs.Tryd.prog 30 #[.int .i64 k] w [] (fun u _ => u = .slice none 0 0) := by
  refine Spec.enter (fn := Go.Proofs.Tryd.f30) (n := 55) [.int .i64 k] Go.Proofs.Tryd.func30 (by kernel_rfl) rfl Go.Proofs.Tryd.ntmps30 Go.Proofs.Tryd.results30 rfl (Own.nil _) ?_
  refine JC.rs ?_
  refine Seq.p rfl Ev.assign ?_
  refine Seq.nil ?_
  refine JC.rs ?_
  refine Seq.p rfl (Ev.buildN [_, _, _, _] pl.bourseref04_field z.bourseref04_field) ?_
  refine Seq.p rfl (Ev.buildN [_, _, _, _] pl.bourseref04_field z.bourseref04_field) ?_
  refine Seq.alloc (cs := [_, _, _, _]) (hz := z.bourseref04_field) (k := ?_); intro b3
  refine Seq.alloc (cs := [_, _, _, _]) (hz := z.bourseref04_field) (k := ?_); intro b4
  refine Seq.storeN [_, _, _, _] sz.bourseref04_field (k := ?_)
  refine Seq.storeN [_, _, _, _] sz.bourseref04_field (k := ?_)
  refine Seq.nil ?_
  refine JC.rs ?_
  refine Seq.p rfl (Ev.buildN [_, _, _, _] pl.bourseref04_field z.bourseref04_field) ?_
  refine Seq.p rfl (Ev.buildN [_, _, _, _] pl.bourseref04_field z.bourseref04_field) ?_
  refine Seq.p rfl (Ev.buildN [_, _, _, _] pl.bourseref04_field z.bourseref04_field) ?_
  refine Seq.alloc (cs := [_, _, _, _]) (hz := z.bourseref04_field) (k := ?_); intro b5
  refine Seq.alloc (cs := [_, _, _, _]) (hz := z.bourseref04_field) (k := ?_); intro b6
  refine Seq.alloc (cs := [_, _, _, _]) (hz := z.bourseref04_field) (k := ?_); intro b7
  refine Seq.storeN [_, _, _, _] sz.bourseref04_field (k := ?_)
  refine Seq.storeN [_, _, _, _] sz.bourseref04_field (k := ?_)
  refine Seq.storeN [_, _, _, _] sz.bourseref04_field (k := ?_)
  refine Seq.nil ?_
  refine JC.seq ?_
  refine JC.rs ?_
  refine Seq.p rfl Ev.move ?_
  refine Seq.nil ?_
  refine JC.blk ?_
  refine JC.rs ?_
  refine Seq.p rfl Ev.eq ?_
  refine Seq.p rfl Ev.assign ?_
  refine Seq.nil ?_
  first | refine JC.c (ht := fun c14 => ?_) (hf := fun c14 => ?_) | refine JC.cb (ht := fun c14 => ?_) (hf := fun c14 => ?_)
  · -- then_t14
    exfalso; omega
  · -- else_t14
    refine JC.rs ?_
    refine Seq.p rfl Ev.eq ?_
    refine Seq.p rfl Ev.assign ?_
    refine Seq.nil ?_
    first | refine JC.c (ht := fun c25 => ?_) (hf := fun c25 => ?_) | refine JC.cb (ht := fun c25 => ?_) (hf := fun c25 => ?_)
    · -- then_t25
      exfalso; omega
    · -- else_t25
      refine JC.rs ?_
      refine Seq.p rfl Ev.eq ?_
      refine Seq.p rfl Ev.assign ?_
      refine Seq.nil ?_
      first | refine JC.c (ht := fun c32 => ?_) (hf := fun c32 => ?_) | refine JC.cb (ht := fun c32 => ?_) (hf := fun c32 => ?_)
      · -- then_t32
        exfalso; omega
      · -- else_t32
        refine JC.rs ?_
        refine Seq.p rfl Ev.eq ?_
        refine Seq.p rfl Ev.assign ?_
        refine Seq.nil ?_
        first | refine JC.c (ht := fun c41 => ?_) (hf := fun c41 => ?_) | refine JC.cb (ht := fun c41 => ?_) (hf := fun c41 => ?_)
        · -- then_t41
          exfalso; omega
        · -- else_t41
          refine JC.rs ?_
          refine Seq.p rfl Ev.eq ?_
          refine Seq.p rfl Ev.assign ?_
          refine Seq.nil ?_
          first | refine JC.c (ht := fun c48 => ?_) (hf := fun c48 => ?_) | refine JC.cb (ht := fun c48 => ?_) (hf := fun c48 => ?_)
          · -- then_t48
            exfalso; omega
          · -- else_t48
            refine JC.skip ?_
            refine JC.rs ?_
            refine Seq.p rfl Ev.assign ?_
            refine Seq.nil ?_
            refine JC.ret ?_
            -- return 0
            show retQ _ _ _ _ _ _ _ _
            refine ret1 (hp := Part.nil _) (hpost := ?_)
            rfl
end Go.Rx
namespace Go.Rx
open Go Go.RowKit
set_option linter.unusedVariables false
set_option linter.unusedSimpArgs false
def toldEvE (e : Event) : Int := match evFieldsF e with | none => 41 | some fs => if fs.all (·.fits) = true ∧ eventOfF e.kind (numsF fs) = e then 0 else 40
def EvToldPost (e : Event) (u : Value) (N : List Chunk) : Prop :=
  if toldEvE e = 0 then ∃ fs A c b, evFieldsF e = some fs ∧ u = .tuple #[.slice A fs.length c, .map (some b), .int .i64 0] ∧ N = [.mi b .i64 .u64 (numsF fs), .own 92 3 (.slice A fs.length c) fs.length (fs.flatMap Fld.enc)]
  else u = .tuple #[.slice none 0 0, .map none, .int .i64 (toldEvE e)]
theorem evFieldsF_small {e : Event} {fs : List Fld} (h : evFieldsF e = some fs) : fs.length ≤ 8 ∧ 1 ≤ e.kind ∧ e.kind ≤ 5 := by
  unfold evFieldsF at h
  repeat (first | (split at h) | (simp only [Option.some.injEq] at h; subst h; exact ⟨Nat.le_of_ble_eq_true rfl, by omega, by omega⟩) | cases h)
set_option maxHeartbeats 2000000 in
theorem msgToldEv0 {w : World} {e : Event} (hF : evFieldsF e = none) : Spec Go.Proofs.Tryd.prog 26 #[.agg e.enc.toArray] w [] (EvToldPost e) := by
  have hE : toldEvE e = 41 := by unfold toldEvE; rw [hF]
  refine Spec.enter (fn := Go.Proofs.Tryd.f26) (n := 32) [.agg e.enc.toArray] Go.Proofs.Tryd.func26 (by kernel_rfl) rfl Go.Proofs.Tryd.ntmps26 Go.Proofs.Tryd.results26 rfl (Own.nil _) ?_
  refine JC.rs ?_
  refine Seq.box (cs := [_, _, _, _, _, _, _, _, _, _, _, _, _]) (k := ?_); intro b1
  refine Seq.p rfl Ev.assign ?_
  refine Seq.p rfl Ev.assign ?_
  refine Seq.p rfl Ev.assign ?_
  refine Seq.nil ?_
  refine JC.rs ?_
  refine Seq.p rfl (Ev.ldBA ag.api_Event) ?_
  refine Seq.call rfl (fun w hw => hF ▸ msgEventFields) (F := _) (by exact List.Perm.refl _) ?_
  rintro _ N rfl
  refine Seq.p rfl Ev.move ?_
  refine Seq.p rfl Ev.extract ?_
  refine Seq.p rfl Ev.extract ?_
  refine Seq.p rfl Ev.assign ?_
  refine Seq.p rfl Ev.assign ?_
  refine Seq.nil ?_
  refine JC.seq ?_
  refine JC.rs ?_
  refine Seq.p rfl Ev.move ?_
  refine Seq.p rfl Ev.not ?_
  refine Seq.nil ?_
  first | refine JC.c (ht := fun c14 => ?_) (hf := fun c14 => ?_) | refine JC.cb (ht := fun c14 => ?_) (hf := fun c14 => ?_)
  · -- then_t14
    refine JC.rs ?_
    refine Seq.p rfl Ev.assign ?_
    refine Seq.p rfl Ev.assign ?_
    refine Seq.p rfl Ev.assign ?_
    refine Seq.nil ?_
    refine JC.ret ?_
    -- return 0
    show retQ _ _ _ _ _ _ _ _
    refine ret3 (hp := Part.nil _) (hpost := ?_)
    show EvToldPost _ _ _
    rw [EvToldPost, if_neg (by rw [hE]; decide), hE]
  · -- else_t14
    cases c14
set_option maxHeartbeats 2000000 in
theorem msgToldEv1 {w : World} {e : Event} {fs : List Fld} (hF : evFieldsF e = some fs) (hn : ¬ fs.all (·.fits) = true) : Spec Go.Proofs.Tryd.prog 26 #[.agg e.enc.toArray] w [] (EvToldPost e) := by
  have hE : toldEvE e = 40 := by unfold toldEvE; rw [hF]; exact if_neg (fun h => hn h.1)
  have hsm := (evFieldsF_small hF).1
  refine Spec.enter (fn := Go.Proofs.Tryd.f26) (n := 32) [.agg e.enc.toArray] Go.Proofs.Tryd.func26 (by kernel_rfl) rfl Go.Proofs.Tryd.ntmps26 Go.Proofs.Tryd.results26 rfl (Own.nil _) ?_
  refine JC.rs ?_
  refine Seq.box (cs := [_, _, _, _, _, _, _, _, _, _, _, _, _]) (k := ?_); intro b1
  refine Seq.p rfl Ev.assign ?_
  refine Seq.p rfl Ev.assign ?_
  refine Seq.p rfl Ev.assign ?_
  refine Seq.nil ?_
  refine JC.rs ?_
  refine Seq.p rfl (Ev.ldBA ag.api_Event) ?_
  refine Seq.call rfl (fun w hw => hF ▸ msgEventFields) (F := _) (by exact List.Perm.refl _) ?_
  rintro _ _ ⟨A, cc, rfl, rfl⟩
  refine Seq.p rfl Ev.move ?_
  refine Seq.p rfl Ev.extract ?_
  refine Seq.p rfl Ev.extract ?_
  refine Seq.p rfl Ev.assign ?_
  refine Seq.p rfl Ev.assign ?_
  refine Seq.nil ?_
  refine JC.seq ?_
  refine JC.rs ?_
  refine Seq.p rfl Ev.move ?_
  refine Seq.p rfl Ev.not ?_
  refine Seq.nil ?_
  first | refine JC.c (ht := fun c14 => ?_) (hf := fun c14 => ?_) | refine JC.cb (ht := fun c14 => ?_) (hf := fun c14 => ?_)
  · -- then_t14
    cases c14
  · -- else_t14
    refine JC.skip ?_
    refine JC.rs ?_
    refine Seq.p rfl Ev.move ?_
    refine Seq.call rfl (fun w hw => msgNumbers (RAt.up (RAt.own (enc := Fld.enc) (xs := fs) (sz := 3) (hs := by omega)) hw)) (F := _) (by exact List.Perm.refl _) ?_
    intro u N hN
    rw [NumsPost, if_neg hn] at hN
    subst hN
    refine Seq.p rfl Ev.move ?_
    refine Seq.p rfl Ev.extract ?_
    refine Seq.p rfl Ev.extract ?_
    refine Seq.p rfl Ev.assign ?_
    refine Seq.p rfl Ev.assign ?_
    refine Seq.nil ?_
    refine JC.seq ?_
    refine JC.qs mixed (by kernel_rfl) ?_
    refine Qui.p rfl Ev.move ?_
    refine Qui.p rfl Ev.not ?_
    refine Qui.p rfl Ev.move ?_
    refine Qui.split (d := 22) (k := ?_)
    rintro (_|_) h22
    · try simp only [decide_eq_true_eq, decide_eq_false_iff_not] at h22
      cases h22
    · try simp only [decide_eq_true_eq, decide_eq_false_iff_not] at h22
      refine Qui.gn rfl rfl rfl rfl ?_
      refine Qui.gn rfl rfl rfl rfl ?_
      refine Qui.gn rfl rfl rfl rfl ?_
      refine Qui.gn rfl rfl rfl rfl ?_
      refine Qui.gn rfl rfl rfl rfl ?_
      refine Qui.gn rfl rfl rfl rfl ?_
      refine Qui.p rfl Ev.pickT ?_
      refine Qui.nil ?_
      refine JC.cT (h := ?_)
      refine JC.rs ?_
      refine Seq.p rfl Ev.assign ?_
      refine Seq.p rfl Ev.assign ?_
      refine Seq.p rfl Ev.assign ?_
      refine Seq.nil ?_
      refine JC.ret ?_
      -- return 0
      show retQ _ _ _ _ _ _ _ _
      refine ret3 (hp := Part.nil _) (hpost := ?_)
      show EvToldPost _ _ _
      rw [EvToldPost, if_neg (by rw [hE]; decide), hE]
set_option maxHeartbeats 2000000 in
theorem msgToldEv2 {w : World} {e : Event} {fs : List Fld} (hF : evFieldsF e = some fs) (hn : fs.all (·.fits) = true) : Spec Go.Proofs.Tryd.prog 26 #[.agg e.enc.toArray] w [] (EvToldPost e) := by
  have hE : toldEvE e = if eventOfF e.kind (numsF fs) = e then 0 else 40 := by
    unfold toldEvE
    rw [hF]
    simp only [hn, true_and]
  have hsm := (evFieldsF_small hF).1
  refine Spec.enter (fn := Go.Proofs.Tryd.f26) (n := 32) [.agg e.enc.toArray] Go.Proofs.Tryd.func26 (by kernel_rfl) rfl Go.Proofs.Tryd.ntmps26 Go.Proofs.Tryd.results26 rfl (Own.nil _) ?_
  refine JC.rs ?_
  refine Seq.box (cs := [_, _, _, _, _, _, _, _, _, _, _, _, _]) (k := ?_); intro b1
  refine Seq.p rfl Ev.assign ?_
  refine Seq.p rfl Ev.assign ?_
  refine Seq.p rfl Ev.assign ?_
  refine Seq.nil ?_
  refine JC.rs ?_
  refine Seq.p rfl (Ev.ldBA ag.api_Event) ?_
  refine Seq.call rfl (fun w hw => hF ▸ msgEventFields) (F := _) (by exact List.Perm.refl _) ?_
  rintro _ _ ⟨A, cc, rfl, rfl⟩
  refine Seq.p rfl Ev.move ?_
  refine Seq.p rfl Ev.extract ?_
  refine Seq.p rfl Ev.extract ?_
  refine Seq.p rfl Ev.assign ?_
  refine Seq.p rfl Ev.assign ?_
  refine Seq.nil ?_
  refine JC.seq ?_
  refine JC.rs ?_
  refine Seq.p rfl Ev.move ?_
  refine Seq.p rfl Ev.not ?_
  refine Seq.nil ?_
  first | refine JC.c (ht := fun c14 => ?_) (hf := fun c14 => ?_) | refine JC.cb (ht := fun c14 => ?_) (hf := fun c14 => ?_)
  · -- then_t14
    cases c14
  · -- else_t14
    refine JC.skip ?_
    refine JC.rs ?_
    refine Seq.p rfl Ev.move ?_
    refine Seq.call rfl (fun w hw => msgNumbers (RAt.up (RAt.own (enc := Fld.enc) (xs := fs) (sz := 3) (hs := by omega)) hw)) (F := _) (by exact List.Perm.refl _) ?_
    intro u N hN
    rw [NumsPost, if_pos hn] at hN
    obtain ⟨bn, rfl, rfl⟩ := hN
    refine Seq.p rfl Ev.move ?_
    refine Seq.p rfl Ev.extract ?_
    refine Seq.p rfl Ev.extract ?_
    refine Seq.p rfl Ev.assign ?_
    refine Seq.p rfl Ev.assign ?_
    refine Seq.nil ?_
    refine JC.seq ?_
    refine JC.qs mixed (by kernel_rfl) ?_
    refine Qui.p rfl Ev.move ?_
    refine Qui.p rfl Ev.not ?_
    refine Qui.p rfl Ev.move ?_
    refine Qui.split (d := 22) (k := ?_)
    rintro (_|_) h22
    · try simp only [decide_eq_true_eq, decide_eq_false_iff_not] at h22
      refine Qui.gy rfl rfl rfl ?_
      refine Qui.p rfl (Ev.faB fd.api_Event_1) ?_
      refine Qui.gy rfl rfl rfl ?_
      refine Qui.p rfl (Ev.ldB sc.int) ?_
      refine Qui.gy rfl rfl rfl ?_
      refine Qui.p rfl Ev.move ?_
      refine Qui.gy rfl rfl rfl ?_
      refine Qui.call rfl (fun w hw => msgEventOf (RM.up RM.own hw)) ?_
      refine Qui.gy rfl rfl rfl ?_
      refine Qui.p rfl (Ev.ldBA ag.api_Event) ?_
      refine Qui.gy rfl rfl rfl ?_
      refine Qui.p rfl (Ev.neAg so.api_Event ag.api_Event gd.api_Event) ?_
      refine Qui.p rfl Ev.pickF ?_
      refine Qui.nil ?_
      first | refine JC.c (ht := fun c29 => ?_) (hf := fun c29 => ?_) | refine JC.cb (ht := fun c29 => ?_) (hf := fun c29 => ?_)
      · -- then_t29
        have c35 : (!eqL (eventOfF e.kind (numsF fs)).enc e.enc) = true := c29
        rw [Event.eqL_enc] at c35
        have hne : ¬ eventOfF e.kind (numsF fs) = e := by simpa using c35
        rw [if_neg hne] at hE
        refine JC.rs ?_
        refine Seq.p rfl Ev.assign ?_
        refine Seq.p rfl Ev.assign ?_
        refine Seq.p rfl Ev.assign ?_
        refine Seq.nil ?_
        refine JC.ret ?_
        -- return 0
        show retQ _ _ _ _ _ _ _ _
        refine ret3 (hp := Part.nil _) (hpost := ?_)
        show EvToldPost _ _ _
        rw [EvToldPost, if_neg (by rw [hE]; decide), hE]
      · -- else_t29
        have c35 : (!eqL (eventOfF e.kind (numsF fs)).enc e.enc) = false := c29
        rw [Event.eqL_enc] at c35
        have heq : eventOfF e.kind (numsF fs) = e := of_ndec c35
        rw [if_pos heq] at hE
        refine JC.skip ?_
        refine JC.rs ?_
        refine Seq.p rfl Ev.move ?_
        refine Seq.p rfl Ev.move ?_
        refine Seq.p rfl Ev.assign ?_
        refine Seq.p rfl Ev.assign ?_
        refine Seq.p rfl Ev.assign ?_
        refine Seq.nil ?_
        refine JC.ret ?_
        -- return 1
        show retQ _ _ _ _ _ _ _ _
        refine ret3 (H' := [.mi bn .i64 .u64 (numsF fs), .own 92 3 (.slice A fs.length cc) fs.length (fs.flatMap Fld.enc)]) (hp := Part.here (Part.here (Part.nil _))) (hpost := ?_)
        show EvToldPost _ _ _
        rw [EvToldPost, if_pos hE]
        exact ⟨fs, A, cc, bn, hF, rfl, rfl⟩
    · try simp only [decide_eq_true_eq, decide_eq_false_iff_not] at h22
      cases h22
theorem msgToldEv {w : World} {e : Event} : Spec Go.Proofs.Tryd.prog 26 #[.agg e.enc.toArray] w [] (EvToldPost e) := by
  rcases hF : evFieldsF e with _ | fs
  · exact msgToldEv0 hF
  · by_cases hn : fs.all (·.fits) = true
    · exact msgToldEv2 hF hn
    · exact msgToldEv1 hF hn
def evFrameF (k : Int) (ms : List (Int × Int)) : Frame :=
  ⟨(64 + k) % 256, [iget ms 34, iget ms 11, add64 (iget ms 37) (iget ms 41), add64 (add64 (add64 (iget ms 1) (up (iget ms 54) 32)) (up (iget ms 40) 40)) (up (iget ms 378) 48), add64 (iget ms 44) (up (iget ms 103) 32), iget ms 38, iget ms 210]⟩
def packEvF (e : Event) : Frame × Int := if toldEvE e = 0 then (match evFieldsF e with | some fs => evFrameF e.kind (numsF fs) | none => frame0, 0) else (frame0, toldEvE e)
end Go.Rx
namespace Go.Rx
open Go Go.RowKit
set_option linter.unusedVariables false
set_option linter.unusedSimpArgs false
def evStepF (i : Event) (f : RF) (s : Event × List Int) : Option (Event × List Int) :=
  if (eventValueF i f.tag).2 = false then none else if 0 < f.most ∧ f.most < (eventValueF i f.tag).1 then none else some (withEventF s.1 f.tag (eventValueF i f.tag).1, s.2 ++ [(eventValueF i f.tag).1])
def evValsGo (i : Event) : List RF → Event × List Int → Option (Event × List Int)
  | [], s => some s
  | f :: r, s => match evStepF i f s with | none => none | some s' => evValsGo i r s'
theorem evValsGo_append (i : Event) (xs ys : List RF) (s : Event × List Int) : evValsGo i (xs ++ ys) s = match evValsGo i xs s with | none => none | some s' => evValsGo i ys s' := by
  induction xs generalizing s with
  | nil => rfl
  | cons f r ih =>
    simp only [List.cons_append, evValsGo]
    cases evStepF i f s with
    | none => rfl
    | some s' => exact ih s'
theorem evValsGo_snoc {i : Event} {l : List RF} {k : Nat} (hk : k < l.length) {s s' : Event × List Int} (h : evValsGo i (l.take k) s = some s') : evValsGo i (l.take (k + 1)) s = evStepF i l[k]! s' := by
  have : l.take (k + 1) = l.take k ++ [l[k]!] := by
    rw [List.take_succ_eq_append_getElem hk, getElem!_pos l k hk]
  rw [this, evValsGo_append, h]
  simp only [evValsGo]
  cases evStepF i l[k]! s' <;> rfl
theorem evValsGo_none {i : Event} {l : List RF} {k : Nat} {s : Event × List Int} (h : evValsGo i (l.take k) s = none) : evValsGo i l s = none := by
  rw [← List.take_append_drop k l, evValsGo_append, h]
theorem evValsGo_length {i : Event} : ∀ (l : List RF) (s s' : Event × List Int), evValsGo i l s = some s' → s'.2.length = s.2.length + l.length
  | [], s, s', h => by
    simp only [evValsGo, Option.some.injEq] at h
    subst h
    rfl
  | f :: r, s, s', h => by
    simp only [evValsGo] at h
    cases hs : evStepF i f s with
    | none => rw [hs] at h; cases h
    | some t =>
      rw [hs] at h
      have := evValsGo_length r t s' h
      unfold evStepF at hs
      split at hs
      · cases hs
      · split at hs
        · cases hs
        · simp only [Option.some.injEq] at hs
          subst hs
          simp only [List.length_append, List.length_singleton] at this
          simp only [List.length_cons]
          omega
def ev0 (k : Int) : Event := ⟨0, k, 0, 0, 0, 0, 0, 0, 0, 0, 0, 0, 0⟩
def refEvE (i : Event) : Int :=
  if ¬ (1 ≤ i.kind ∧ i.kind ≤ 5) then 41 else match evValsGo i (toldRF i.kind) (ev0 i.kind, []) with | none => 40 | some s => if s.1 = i then 0 else 40
def EvValuesPost (i : Event) (u : Value) (N : List Chunk) : Prop :=
  if refEvE i = 0 then ∃ s A c, (1 ≤ i.kind ∧ i.kind ≤ 5) ∧ evValsGo i (toldRF i.kind) (ev0 i.kind, []) = some s ∧ u = .tuple #[.slice A s.2.length c, .int .i64 0] ∧ N = [.own 22 1 (.slice A s.2.length c) s.2.length (s.2.flatMap uenc)]
  else u = .tuple #[.slice none 0 0, .int .i64 (refEvE i)]
theorem toldRF_small (k : Int) : (toldRF k).length ≤ 8 := by
  unfold toldRF
  repeat (first | exact Nat.le_of_ble_eq_true rfl | split)
theorem toldRF_pos {k : Int} (hk : 1 ≤ k ∧ k ≤ 5) : 1 ≤ (toldRF k).length := by
  have : k = 1 ∨ k = 2 ∨ k = 3 ∨ k = 4 ∨ k = 5 := by omega
  rcases this with rfl | rfl | rfl | rfl | rfl <;> exact Nat.le_of_ble_eq_true rfl
theorem toldRF_words (k : Int) : ∀ f ∈ toldRF k, 0 ≤ f.word ∧ f.word < 7 ∧ 0 ≤ f.shift := by
  have h : ((toldRF k).all fun f => decide (0 ≤ f.word ∧ f.word < 7 ∧ 0 ≤ f.shift)) = true := by
    unfold toldRF
    repeat (first | rfl | split)
  intro f hf
  exact of_decide_eq_true (List.all_eq_true.1 h f hf)
set_option maxHeartbeats 4000000 in
set_option maxRecDepth 100000 in
theorem refEvValues0 {w : World} {i : Event} (hk : ¬ (1 ≤ i.kind ∧ i.kind ≤ 5)) : Spec Go.Proofs.Tryd.prog 29 #[.agg i.enc.toArray] w [] (EvValuesPost i) := by
  refine Spec.enter (fn := Go.Proofs.Tryd.f29) (n := 70) [.agg i.enc.toArray] Go.Proofs.Tryd.func29 (by kernel_rfl) rfl Go.Proofs.Tryd.ntmps29 Go.Proofs.Tryd.results29 rfl (Own.nil _) ?_
  refine JC.rs ?_
  refine Seq.box (cs := [_, _, _, _, _, _, _, _, _, _, _, _, _]) (k := ?_); intro b1
  refine Seq.p rfl Ev.assign ?_
  refine Seq.p rfl Ev.assign ?_
  refine Seq.nil ?_
  refine JC.rs ?_
  refine Seq.p rfl (Ev.faB fd.api_Event_1) ?_
  refine Seq.p rfl (Ev.ldB sc.int) ?_
  refine Seq.callP rfl (fun w hw => refTold0 hk) ?_
  refine Seq.p rfl Ev.assign ?_
  refine Seq.nil ?_
  refine JC.seq ?_
  refine JC.rs ?_
  refine Seq.p rfl Ev.move ?_
  refine Seq.p rfl (Ev.lenSl sl.sl_bourseref04_field (hr := (RSl.r (RSl.empty RF.enc 4 w _)))) ?_
  refine Seq.p rfl Ev.eq ?_
  refine Seq.nil ?_
  first | refine JC.c (ht := fun c15 => ?_) (hf := fun c15 => ?_) | refine JC.cb (ht := fun c15 => ?_) (hf := fun c15 => ?_)
  · -- then_t15
    refine JC.rs ?_
    refine Seq.p rfl Ev.assign ?_
    refine Seq.p rfl Ev.assign ?_
    refine Seq.nil ?_
    refine JC.ret ?_
    -- return 0
    show retQ _ _ _ _ _ _ _ _
    refine ret2 (hp := Part.nil _) (hpost := ?_)
    have hE : refEvE i = 41 := if_pos hk
    show EvValuesPost _ _ _
    rw [EvValuesPost, if_neg (by rw [hE]; decide), hE]
  · -- else_t15
    exact absurd rfl c15
set_option maxHeartbeats 4000000 in
set_option maxRecDepth 100000 in
theorem refEvValues1 {w : World} {i : Event} (hk : 1 ≤ i.kind ∧ i.kind ≤ 5) : Spec Go.Proofs.Tryd.prog 29 #[.agg i.enc.toArray] w [] (EvValuesPost i) := by
  have hsm := toldRF_small i.kind
  have hpos := toldRF_pos hk
  have hE : refEvE i = match evValsGo i (toldRF i.kind) (ev0 i.kind, []) with | none => 40 | some s => if s.1 = i then 0 else 40 := if_neg (fun h => h hk)
  have hsp := @refTold
  generalize hl : toldRF i.kind = l at hsm hE hpos
  refine Spec.enter (fn := Go.Proofs.Tryd.f29) (n := 70) [.agg i.enc.toArray] Go.Proofs.Tryd.func29 (by kernel_rfl) rfl Go.Proofs.Tryd.ntmps29 Go.Proofs.Tryd.results29 rfl (Own.nil _) ?_
  refine JC.rs ?_
  refine Seq.box (cs := [_, _, _, _, _, _, _, _, _, _, _, _, _]) (k := ?_); intro b1
  refine Seq.p rfl Ev.assign ?_
  refine Seq.p rfl Ev.assign ?_
  refine Seq.nil ?_
  refine JC.rs ?_
  refine Seq.p rfl (Ev.faB fd.api_Event_1) ?_
  refine Seq.p rfl (Ev.ldB sc.int) ?_
  refine Seq.call rfl (fun w hw => hl ▸ hsp hk) (F := _) (by exact List.Perm.refl _) ?_
  rintro _ _ ⟨bl, rfl, rfl⟩
  refine Seq.p rfl Ev.assign ?_
  refine Seq.nil ?_
  refine JC.seq ?_
  refine JC.rs ?_
  refine Seq.p rfl Ev.move ?_
  refine Seq.p rfl (Ev.lenSl sl.sl_bourseref04_field (hr := RAt.box (enc := RF.enc) (sz := 4) (hs := by omega))) ?_
  refine Seq.p rfl Ev.eq ?_
  refine Seq.nil ?_
  first | refine JC.c (ht := fun c15 => ?_) (hf := fun c15 => ?_) | refine JC.cb (ht := fun c15 => ?_) (hf := fun c15 => ?_)
  · -- then_t15
    exfalso; omega
  · -- else_t15
    refine JC.skip ?_
    refine JC.rs ?_
    refine Seq.p rfl (Ev.faB fd.api_Event_1) ?_
    refine Seq.p rfl (Ev.ldB sc.int) ?_
    refine Seq.p rfl (Ev.buildN [_, _, _, _, _, _, _, _, _, _, _, _, _] pl.api_Event z.api_Event) ?_
    refine Seq.alloc (cs := [_, _, _, _, _, _, _, _, _, _, _, _, _]) (hz := z.api_Event) (k := ?_); intro b5
    refine Seq.storeN [_, _, _, _, _, _, _, _, _, _, _, _, _] sz.api_Event (k := ?_)
    refine Seq.nil ?_
    refine JC.rs ?_
    refine Seq.p rfl Ev.assign ?_
    refine Seq.re (fun w h => Upd.nilOwn h 22 1) ?_
    refine Seq.nil ?_
    refine JC.seq ?_
    refine JC.rs ?_
    refine Seq.p rfl Ev.assign ?_
    refine Seq.nil ?_
    refine JC.blk ?_
    refine JC.loop (α := Nat × Option Addr × Nat × Event × List Int) (I := fun s e1 H1 => Has [2, 3, 6, 7, 8, 9, 19, 20, 21, 22, 23, 24, 25, 26, 27, 28, 29, 30, 31, 32, 33, 34, 35, 36, 37, 38, 39, 40, 41, 42, 43, 44, 45, 46, 47, 48, 49, 50, 51, 52, 53, 54, 55, 56, 57, 58, 59, 60, 61, 62, 63, 64, 65] [(7, .int .i64 (s.1 : Int)), (6, .slice s.2.1 s.1 s.2.2.1)] _ e1 ∧ H1 = [.own 22 1 (.slice s.2.1 s.1 s.2.2.1) s.1 (s.2.2.2.2.flatMap uenc), .box b5 30 s.2.2.2.1.enc, .box bl 65 (l.flatMap RF.enc), .box b1 30 i.enc] ∧ s.1 ≤ l.length ∧ evValsGo i (l.take s.1) (ev0 i.kind, []) = some (s.2.2.2.1, s.2.2.2.2) ∧ s.2.2.2.2.length = s.1) (μ := fun s => l.length - s.1) (0, none, 0, ev0 i.kind, []) ⟨Has.mk Off.refl (allLook_cons (by repeat (first | exact Look.here | apply Look.there (hne := rfl) | exact Look.const | apply Look.mix rfl | exact Look.arg0 | apply Look.args | exact Look.func)) (allLook_cons (by repeat (first | exact Look.here | apply Look.there (hne := rfl) | exact Look.const | apply Look.mix rfl | exact Look.arg0 | apply Look.args | exact Look.func)) allLook_nil)), rfl, by omega, rfl, rfl⟩ ?_
    rintro ⟨k, A, cc, agn, out⟩ _ _ ⟨⟨ui, rfl⟩, rfl, hk2', hv, hol⟩; dsimp only [setL]; dsimp only at hk2' hv hol
    refine JC.seq ?_
    refine JC.rs ?_
    refine Seq.p rfl Ev.move ?_
    refine Seq.p rfl Ev.move ?_
    refine Seq.p rfl (Ev.lenSl sl.sl_bourseref04_field (hr := RAt.box (enc := RF.enc) (sz := 4) (hs := by omega))) ?_
    refine Seq.p rfl Ev.lt ?_
    refine Seq.nil ?_
    first | refine JC.c (ht := fun c22 => ?_) (hf := fun c22 => ?_) | refine JC.cb (ht := fun c22 => ?_) (hf := fun c22 => ?_)
    · -- then_t22
      have hk2 : k < l.length := by omega
      have hsn := evValsGo_snoc hk2 hv
      refine JC.skip ?_
      refine JC.seq ?_
      refine JC.blk ?_
      refine JC.qs mixed (by kernel_rfl) ?_
      refine Qui.p rfl (Ev.ldBA ag.api_Event) ?_
      refine Qui.p rfl Ev.move ?_
      refine Qui.p rfl Ev.move ?_
      refine Qui.p rfl (Ev.iaN sl.sl_bourseref04_field (hr := RAt.box (enc := RF.enc) (sz := 4) (hs := by omega))) ?_
      refine Qui.p rfl (Ev.fa fd.bourseref04_field_0) ?_
      refine Qui.p rfl (Ev.ldE sc.int (hr := RAt.box (enc := RF.enc) (sz := 4) (hs := by omega))) ?_
      refine Qui.call rfl (fun w hw => refEventValue) ?_
      refine Qui.p rfl Ev.move ?_
      refine Qui.p rfl Ev.extract ?_
      refine Qui.p rfl Ev.extract ?_
      refine Qui.p rfl Ev.assign ?_
      refine Qui.p rfl Ev.assign ?_
      refine Qui.nil ?_
      refine JC.seq ?_
      refine JC.rs ?_
      refine Seq.p rfl Ev.move ?_
      refine Seq.p rfl Ev.not ?_
      refine Seq.p rfl Ev.move ?_
      refine Seq.orG (D := [37, 38, 39, 40, 41, 42, 43, 44, 45, 46, 47, 48, 49, 50, 51, 52, 53]) (d := 37) (t := 53) (k := 16) (hn := fun h37 => ?_) (hx := ?_)
      · repeat (first | refine Seq.gn rfl rfl rfl rfl ?_ | refine Seq.gu rfl rfl rfl ?_)
        refine Seq.p rfl Ev.pickT ?_
        exact Seq.nil ⟨rfl, (by repeat (first | with_reducible exact Off.refl | refine Off.upd ?_ rfl | exact Off.mix | refine Off.mix2 ?_ rfl)), Look.here⟩
      apply Exists.intro
      refine ⟨fun h37 => ?_, fun u53 => ?_⟩
      · try simp only [decide_eq_true_eq, decide_eq_false_iff_not, Bool.and_eq_true, Bool.or_eq_true, Bool.not_eq_true', Bool.not_eq_false', Bool.or_eq_false_iff, Bool.and_eq_false_imp] at h37
        refine Seq.gy rfl rfl rfl ?_
        refine Seq.p rfl Ev.move ?_
        refine Seq.gy rfl rfl rfl ?_
        refine Seq.p rfl Ev.move ?_
        refine Seq.gy rfl rfl rfl ?_
        refine Seq.p rfl (Ev.iaN sl.sl_bourseref04_field (hr := RAt.box (enc := RF.enc) (sz := 4) (hs := by omega))) ?_
        refine Seq.gy rfl rfl rfl ?_
        refine Seq.p rfl (Ev.fa fd.bourseref04_field_1) ?_
        refine Seq.gy rfl rfl rfl ?_
        refine Seq.p rfl (Ev.ldE sc.uint64 (hr := RAt.box (enc := RF.enc) (sz := 4) (hs := by omega))) ?_
        refine Seq.gy rfl rfl rfl ?_
        refine Seq.p rfl Ev.gt ?_
        refine Seq.gy rfl rfl rfl ?_
        refine Seq.p rfl Ev.move ?_
        refine Seq.andG (D := [44, 45, 46, 47, 48, 49, 50, 51, 52]) (d := 44) (t := 52) (k := 8) (hn := fun h44 => ?_) (hx := ?_)
        · repeat (first | refine Seq.gn rfl rfl rfl rfl ?_ | refine Seq.gu rfl rfl rfl ?_)
          refine Seq.gy rfl rfl rfl ?_
          refine Seq.p rfl Ev.pickF ?_
          exact Seq.nil ⟨rfl, (by repeat (first | with_reducible exact Off.refl | refine Off.upd ?_ rfl | exact Off.mix | refine Off.mix2 ?_ rfl)), Look.here⟩
        apply Exists.intro
        refine ⟨fun h44 => ?_, fun u52 => ?_⟩
        · try simp only [decide_eq_true_eq, decide_eq_false_iff_not, Bool.and_eq_true, Bool.or_eq_true, Bool.not_eq_true', Bool.not_eq_false', Bool.or_eq_false_iff, Bool.and_eq_false_imp] at h44
          refine Seq.gy rfl rfl rfl ?_
          refine Seq.p rfl Ev.move ?_
          refine Seq.gy rfl rfl rfl ?_
          refine Seq.p rfl Ev.move ?_
          refine Seq.gy rfl rfl rfl ?_
          refine Seq.p rfl Ev.move ?_
          refine Seq.gy rfl rfl rfl ?_
          refine Seq.p rfl (Ev.iaN sl.sl_bourseref04_field (hr := RAt.box (enc := RF.enc) (sz := 4) (hs := by omega))) ?_
          refine Seq.gy rfl rfl rfl ?_
          refine Seq.p rfl (Ev.fa fd.bourseref04_field_1) ?_
          refine Seq.gy rfl rfl rfl ?_
          refine Seq.p rfl (Ev.ldE sc.uint64 (hr := RAt.box (enc := RF.enc) (sz := 4) (hs := by omega))) ?_
          refine Seq.gy rfl rfl rfl ?_
          refine Seq.p rfl Ev.gt ?_
          refine Seq.gy rfl rfl rfl ?_
          refine Seq.p rfl Ev.pickT ?_
          exact Seq.nil ⟨rfl, (by repeat (first | with_reducible exact Off.refl | refine Off.upd ?_ rfl | exact Off.mix | refine Off.mix2 ?_ rfl)), Look.here⟩
        refine Seq.p rfl Ev.pickF ?_
        exact Seq.nil ⟨rfl, (by repeat (first | with_reducible exact Off.refl | refine Off.upd ?_ rfl | exact Off.mix | refine Off.mix2 ?_ rfl)), Look.here⟩
      refine Seq.nil ?_
      first | refine JC.c (ht := fun c53 => ?_) (hf := fun c53 => ?_) | refine JC.cb (ht := fun c53 => ?_) (hf := fun c53 => ?_)
      · -- then_t53
        refine JC.rs ?_
        refine Seq.p rfl Ev.assign ?_
        refine Seq.p rfl Ev.assign ?_
        refine Seq.nil ?_
        refine JC.ret ?_
        -- return 0
        show retQ _ _ _ _ _ _ _ _
        refine ret2 (hp := Part.nil _) (hpost := ?_)
        have hst : evStepF i l[k]! (agn, out) = none := by
          rw [evStepF]
          rcases step_no c53 with h | h
          · rw [if_pos h]
          · by_cases h0 : (eventValueF i l[k]!.tag).2 = false
            · rw [if_pos h0]
            · rw [if_neg h0, if_pos h]
        rw [hst] at hsn
        have hE40 : refEvE i = 40 := by rw [hE, evValsGo_none hsn]
        show EvValuesPost _ _ _
        rw [EvValuesPost, if_neg (by rw [hE40]; decide), hE40]
      · -- else_t53
        refine JC.skip ?_
        refine JC.asE 1 mixed ?_
        refine Any.p 1 rfl (by kernel_rfl) (by kernel_rfl) (by kernel_rfl) rfl Ev.move ?_
        refine Any.p 2 rfl (by kernel_rfl) (by kernel_rfl) (by kernel_rfl) rfl Ev.move ?_
        refine Any.p 3 rfl (by kernel_rfl) (by kernel_rfl) (by kernel_rfl) rfl (Ev.iaN sl.sl_bourseref04_field (hr := RAt.box (enc := RF.enc) (sz := 4) (hs := by omega))) ?_
        refine Any.p 4 rfl (by kernel_rfl) (by kernel_rfl) (by kernel_rfl) rfl (Ev.fa fd.bourseref04_field_0) ?_
        refine Any.p 5 rfl (by kernel_rfl) (by kernel_rfl) (by kernel_rfl) rfl (Ev.ldE sc.int (hr := RAt.box (enc := RF.enc) (sz := 4) (hs := by omega))) ?_
        refine Any.p 6 rfl (by kernel_rfl) (by kernel_rfl) (by kernel_rfl) rfl Ev.move ?_
        refine Any.one 0 rfl (by kernel_rfl) ?_
        refine Seq.p rfl (Ev.ldBA ag.api_Event) ?_
        refine Seq.nil ⟨(by repeat (first | exact Part.refl _ | exact Part.nil _ | apply Part.here | apply Part.skip)), ?_⟩
        refine Any.call 7 rfl (by kernel_rfl) (by kernel_rfl) (by kernel_rfl) rfl (fun w hw => refWithEvent) ?_
        refine Any.one 8 rfl (by kernel_rfl) ?_
        refine Seq.storeN [_, _, _, _, _, _, _, _, _, _, _, _, _] sz.api_Event (k := ?_)
        refine Seq.nil ⟨(by repeat (first | exact Part.refl _ | exact Part.nil _ | apply Part.here | apply Part.skip)), ?_⟩
        refine Any.done (by kernel_rfl) ?_
        refine JC.reg ?_
        refine Seq.p rfl Ev.move ?_
        refine Seq.p rfl Ev.move ?_
        refine Seq.buildSlN [_] (hsl := sl.sl_uint64) (hz := z.uint64) (k := ?_); intro b64
        refine Seq.append (hsl := sl.sl_uint64) (he := el.uint64) (hsrc := (fun w' hw => Src.box (news := [.int .u64 (eventValueF i l[k]!.tag).1]) sl.sl_uint64 At.z hw rfl (by intro q u hu; cases q with | zero => exact hu | succ q => simp at hu))) (k := ?_); intro A65 c65
        refine Seq.p rfl Ev.assign ?_
        refine Seq.nil ?_
        refine JC.reg ?_
        refine Seq.p rfl Ev.move ?_
        refine Seq.p rfl (by first | exact Ev.inc | exact Ev.add) ?_
        refine Seq.p rfl Ev.assign ?_
        refine Seq.nil ?_
        have hst : evStepF i l[k]! (agn, out) = some (withEventF agn l[k]!.tag (eventValueF i l[k]!.tag).1, out ++ [(eventValueF i l[k]!.tag).1]) := by rw [evStepF, if_neg (step_yes c53).1, if_neg (step_yes c53).2]
        rw [hst] at hsn
        refine ⟨(k + 1, A65, c65, withEventF agn l[k]!.tag (eventValueF i l[k]!.tag).1, out ++ [(eventValueF i l[k]!.tag).1]), _, Part.skip (Part.refl _), ⟨Has.mk (by repeat (first | refine Off.upd ?_ rfl | exact Off.mix | refine Off.mix2 ?_ rfl | exact Off.refl)) (allLook_cons (by repeat (first | exact Look.here | apply Look.there (hne := rfl) | exact Look.const | apply Look.mix rfl | exact Look.arg0 | apply Look.args | exact Look.func)) (allLook_cons (by repeat (first | exact Look.here | apply Look.there (hne := rfl) | exact Look.const | apply Look.mix rfl | exact Look.arg0 | apply Look.args | exact Look.func)) allLook_nil)), by simp only [List.flatMap_append]; rfl, by show k + 1 ≤ l.length; omega, hsn, by simp [hol]⟩, by show l.length - (k + 1) < l.length - k; omega⟩
    · -- else_t22
      obtain rfl : k = l.length := by omega
      rw [List.take_length] at hv
      rw [hv] at hE
      dsimp only at hE
      refine JC.exit ?_ -- 0
      refine JC.seq ?_
      refine JC.rs ?_
      refine Seq.p rfl (Ev.ldBA ag.api_Event) ?_
      refine Seq.p rfl (Ev.ldBA ag.api_Event) ?_
      refine Seq.p rfl (Ev.neAg so.api_Event ag.api_Event gd.api_Event) ?_
      refine Seq.nil ?_
      first | refine JC.c (ht := fun c68 => ?_) (hf := fun c68 => ?_) | refine JC.cb (ht := fun c68 => ?_) (hf := fun c68 => ?_)
      · -- then_t68
        have c69 : (!eqL agn.enc i.enc) = true := c68
        rw [Event.eqL_enc] at c69
        have hne : ¬ agn = i := by simpa using c69
        rw [if_neg hne] at hE
        refine JC.rs ?_
        refine Seq.p rfl Ev.assign ?_
        refine Seq.p rfl Ev.assign ?_
        refine Seq.nil ?_
        refine JC.ret ?_
        -- return 1
        show retQ _ _ _ _ _ _ _ _
        refine ret2 (hp := Part.nil _) (hpost := ?_)
        show EvValuesPost _ _ _
        rw [EvValuesPost, if_neg (by rw [hE]; decide), hE]
      · -- else_t68
        have c69 : (!eqL agn.enc i.enc) = false := c68
        rw [Event.eqL_enc] at c69
        have heq : agn = i := of_ndec c69
        rw [if_pos heq] at hE
        refine JC.skip ?_
        refine JC.rs ?_
        refine Seq.p rfl Ev.move ?_
        refine Seq.p rfl Ev.assign ?_
        refine Seq.p rfl Ev.assign ?_
        refine Seq.nil ?_
        refine JC.ret ?_
        -- return 2
        show retQ _ _ _ _ _ _ _ _
        refine ret2 (hp := Part.here (Part.nil _)) (hpost := ?_)
        show EvValuesPost _ _ _
        rw [EvValuesPost, if_pos hE]
        refine ⟨(agn, out), A, cc, hk, by rw [hl]; exact hv, ?_, ?_⟩
        · show _ = Value.tuple #[.slice A out.length cc, _]; rw [hol]
        · show _ = [Chunk.own _ _ (.slice A out.length cc) out.length _]; rw [hol]
theorem refEvValues {w : World} {i : Event} : Spec Go.Proofs.Tryd.prog 29 #[.agg i.enc.toArray] w [] (EvValuesPost i) := by
  by_cases hk : 1 ≤ i.kind ∧ i.kind ≤ 5
  · exact refEvValues1 hk
  · exact refEvValues0 hk
def refPackEvF (i : Event) : Frame × Int :=
  if refEvE i = 0 then (match evValsGo i (toldRF i.kind) (ev0 i.kind, []) with | some s => laidF (64 + i.kind) (toldRF i.kind) s.2 | none => frame0, 0) else (frame0, refEvE i)
end Go.Rx
namespace Go.Rx
open Go Go.RowKit
set_option linter.unusedVariables false
set_option linter.unusedSimpArgs false
structure Event.Wf (e : Event) : Prop where
  seq : 0 ≤ e.seq ∧ e.seq ≤ 18446744073709551615
  id : 0 ≤ e.id ∧ e.id ≤ 18446744073709551615
  other : 0 ≤ e.other ∧ e.other ≤ 18446744073709551615
  target : 0 ≤ e.target ∧ e.target ≤ 18446744073709551615
  member : 0 ≤ e.member ∧ e.member ≤ 4294967295
  side : -9223372036854775808 ≤ e.side ∧ e.side ≤ 9223372036854775807
  type : -9223372036854775808 ≤ e.type ∧ e.type ≤ 9223372036854775807
  price : -9223372036854775808 ≤ e.price ∧ e.price ≤ 9223372036854775807
  qty : 0 ≤ e.qty ∧ e.qty ≤ 18446744073709551615
  peak : 0 ≤ e.peak ∧ e.peak ≤ 18446744073709551615
  reason : -9223372036854775808 ≤ e.reason ∧ e.reason ≤ 9223372036854775807
  code : -9223372036854775808 ≤ e.code ∧ e.code ≤ 9223372036854775807
theorem evStep_small {i : Event} {f : RF} {s : Event × List Int} {n : Int} (hn : -9223372036854775808 ≤ n ∧ n ≤ 9223372036854775807) (hv : eventValueF i f.tag = (n % 18446744073709551616, decide (0 ≤ n))) (hm : 0 < f.most ∧ f.most ≤ 4294967295) :
    evStepF i f s = if 0 ≤ n ∧ n ≤ f.most then some (withEventF s.1 f.tag (n % 18446744073709551616), s.2 ++ [n % 18446744073709551616]) else none := by
  unfold evStepF
  rw [hv]
  by_cases h0 : 0 ≤ n
  · have e1 : n % 18446744073709551616 = n := Int.emod_eq_of_lt h0 (by omega)
    simp only [e1, h0, decide_true, true_and]
    by_cases h1 : n ≤ f.most
    · rw [if_pos h1, if_neg (by simp), if_neg (by omega)]
    · rw [if_neg h1, if_neg (by simp), if_pos ⟨hm.1, by omega⟩]
  · rw [if_pos (by simp [h0]), if_neg (fun h => h0 h.1)]
theorem evStep_any {i : Event} {f : RF} {s : Event × List Int} {n : Int} (hv : eventValueF i f.tag = (n, true)) (hm : f.most = 0 ∨ n ≤ f.most) :
    evStepF i f s = some (withEventF s.1 f.tag n, s.2 ++ [n]) := by
  unfold evStepF
  rw [hv, if_neg (by simp), if_neg (by simp only; omega)]
theorem packEv_err {i : Event} {e : Int} (he : e ≠ 0) (h1 : toldEvE i = e) (h2 : refEvE i = e) : packEvF i = refPackEvF i := by
  rw [packEvF, refPackEvF, if_neg (by rw [h1]; exact he), if_neg (by rw [h2]; exact he), h1, h2]
theorem add64_add0 (a b : Int) : add64 (add64 a b) 0 = add64 a b := add64_zero' (add64_range a b)
theorem packEv_1 {e : Event} (hw : e.Wf) (h1 : e.kind = 1) : packEvF e = refPackEvF e := by
  have hF : evFieldsF e = some (evFields1 e) := by rw [evFieldsF, if_pos h1]
  have hR : refEvE e = match evValsGo e (toldRF 1) (ev0 1, []) with | none => 40 | some s => if s.1 = e then 0 else 40 := by
    rw [refEvE, if_neg (by omega), h1]
    all_goals rfl
  have hm := hw.member
  have em : e.member % 18446744073709551616 = e.member := Int.emod_eq_of_lt hm.1 (by omega)
  have em2 : e.member % 4294967296 = e.member := Int.emod_eq_of_lt hm.1 (by omega)
  have v0 : ∀ s, evStepF e ⟨34, 0, 0, 0⟩ s = _ := fun s => evStep_any (n := e.seq) rfl (.inl rfl)
  have v1 : ∀ s, evStepF e ⟨11, 0, 1, 0⟩ s = _ := fun s => evStep_any (n := e.id) rfl (.inl rfl)
  have v2 : ∀ s, evStepF e ⟨1, 4294967295, 3, 0⟩ s = _ := fun s => evStep_any (n := e.member % 18446744073709551616) rfl (.inr (by rw [em]; exact hm.2))
  have v3 : ∀ s, evStepF e ⟨54, 255, 3, 32⟩ s = _ := fun s => evStep_small hw.side rfl (by decide)
  have v4 : ∀ s, evStepF e ⟨40, 255, 3, 40⟩ s = _ := fun s => evStep_small hw.type rfl (by decide)
  have v5 : ∀ s, evStepF e ⟨44, 4294967295, 4, 0⟩ s = _ := fun s => evStep_small hw.price rfl (by decide)
  have v6 : ∀ s, evStepF e ⟨38, 0, 5, 0⟩ s = _ := fun s => evStep_any (n := e.qty) rfl (.inl rfl)
  have v7 : ∀ s, evStepF e ⟨210, 0, 6, 0⟩ s = _ := fun s => evStep_any (n := e.peak) rfl (.inl rfl)
  have hV : evValsGo e (toldRF 1) (ev0 1, []) = evValsGo e [⟨34, 0, 0, 0⟩, ⟨11, 0, 1, 0⟩, ⟨1, 4294967295, 3, 0⟩, ⟨54, 255, 3, 32⟩, ⟨40, 255, 3, 40⟩, ⟨44, 4294967295, 4, 0⟩, ⟨38, 0, 5, 0⟩, ⟨210, 0, 6, 0⟩] (ev0 1, []) := rfl
  by_cases hs : (0 ≤ e.side ∧ e.side ≤ 255) ∧ (0 ≤ e.type ∧ e.type ≤ 255) ∧ (0 ≤ e.price ∧ e.price ≤ 4294967295)
  · obtain ⟨b0, b1, b2⟩ := hs
    have m0 : e.side % 18446744073709551616 = e.side := Int.emod_eq_of_lt b0.1 (by omega)
    have f0 : s64 e.side = e.side := s64_in (by omega)
    have m1 : e.type % 18446744073709551616 = e.type := Int.emod_eq_of_lt b1.1 (by omega)
    have f1 : s64 e.type = e.type := s64_in (by omega)
    have m2 : e.price % 18446744073709551616 = e.price := Int.emod_eq_of_lt b2.1 (by omega)
    have f2 : s64 e.price = e.price := s64_in (by omega)
    simp only [evValsGo, v0, v1, v2, v3, v4, v5, v6, v7, if_pos b0, if_pos b1, if_pos b2, List.nil_append, List.cons_append] at hV
    have hs1 : evValsGo e (toldRF 1) (ev0 1, []) = some (⟨e.seq, 1, e.id, 0, 0, e.member, e.side, e.type, e.price, e.qty, e.peak, 0, 0⟩, [e.seq, e.id, e.member, e.side, e.type, e.price, e.qty, e.peak]) := by
      rw [hV]
      simp [withEventF, ev0, m0, f0, m1, f1, m2, f2, em, em2]
    have hI : eventOfF 1 (numsF (evFields1 e)) = ⟨e.seq, 1, e.id, 0, 0, e.member, e.side, e.type, e.price, e.qty, e.peak, 0, 0⟩ := by
      simp [evFields1, wholeF, upToF, numsF, iput, eventOfF, iget, m0, f0, m1, f1, m2, f2, em, em2]
      all_goals first | rfl | exact ⟨rfl, rfl⟩ | exact ⟨rfl, rfl, rfl⟩ | exact ⟨rfl, rfl, rfl, rfl⟩ | exact ⟨rfl, rfl, rfl, rfl, rfl⟩
    have hA : ((evFields1 e).all (·.fits)) = true := by
      simp [evFields1, wholeF, upToF, b0, b1, b2]
    by_cases hX : (⟨e.seq, 1, e.id, 0, 0, e.member, e.side, e.type, e.price, e.qty, e.peak, 0, 0⟩ : Event) = e
    · have t0 : toldEvE e = 0 := by
        rw [toldEvE, hF]
        exact if_pos ⟨hA, by rw [h1, hI]; exact hX⟩
      have r0 : refEvE e = 0 := by
        rw [hR, hs1]
        exact if_pos hX
      rw [packEvF, refPackEvF, if_pos t0, if_pos r0, hF, h1, hs1]
      have x0 : up e.seq 0 = e.seq := up_zero hw.seq
      have y0 : add64 0 e.seq = e.seq := add64_zero hw.seq
      have z0 : add64 e.seq 0 = e.seq := add64_zero' hw.seq
      have x1 : up e.id 0 = e.id := up_zero hw.id
      have y1 : add64 0 e.id = e.id := add64_zero hw.id
      have z1 : add64 e.id 0 = e.id := add64_zero' hw.id
      have x2 : up e.member 0 = e.member := up_zero (by omega)
      have y2 : add64 0 e.member = e.member := add64_zero (by omega)
      have z2 : add64 e.member 0 = e.member := add64_zero' (by omega)
      have x3 : up e.side 0 = e.side := up_zero (by omega)
      have y3 : add64 0 e.side = e.side := add64_zero (by omega)
      have z3 : add64 e.side 0 = e.side := add64_zero' (by omega)
      have x4 : up e.type 0 = e.type := up_zero (by omega)
      have y4 : add64 0 e.type = e.type := add64_zero (by omega)
      have z4 : add64 e.type 0 = e.type := add64_zero' (by omega)
      have x5 : up e.price 0 = e.price := up_zero (by omega)
      have y5 : add64 0 e.price = e.price := add64_zero (by omega)
      have z5 : add64 e.price 0 = e.price := add64_zero' (by omega)
      have x6 : up e.qty 0 = e.qty := up_zero hw.qty
      have y6 : add64 0 e.qty = e.qty := add64_zero hw.qty
      have z6 : add64 e.qty 0 = e.qty := add64_zero' hw.qty
      have x7 : up e.peak 0 = e.peak := up_zero hw.peak
      have y7 : add64 0 e.peak = e.peak := add64_zero hw.peak
      have z7 : add64 e.peak 0 = e.peak := add64_zero' hw.peak
      have zz : add64 0 0 = 0 := rfl
      simp [evFrameF, laidF, toldRF, laidGo, laidStep, evFields1, wholeF, upToF, numsF, iput, iget, up_none, add64_add0, zz, m0, f0, m1, f1, m2, f2, em, em2, x0, y0, z0, x1, y1, z1, x2, y2, z2, x3, y3, z3, x4, y4, z4, x5, y5, z5, x6, y6, z6, x7, y7, z7]
    · refine packEv_err (e := 40) (by decide) ?_ ?_
      · rw [toldEvE, hF]
        exact if_neg (fun h => hX (by rw [← hI, ← h1]; exact h.2))
      · rw [hR, hs1]
        exact if_neg hX
  · refine packEv_err (e := 40) (by decide) ?_ ?_
    · rw [toldEvE, hF]
      refine if_neg (fun h => hs ?_)
      have := h.1
      simpa [evFields1, wholeF, upToF, and_assoc] using this
    · rw [hR, hV]
      simp only [evValsGo, v0, v1, v2, v3, v4, v5, v6, v7]
      by_cases b0 : 0 ≤ e.side ∧ e.side ≤ 255
      · skip
        by_cases b1 : 0 ≤ e.type ∧ e.type ≤ 255
        · skip
          have b2 : ¬ (0 ≤ e.price ∧ e.price ≤ 4294967295) := fun b2 => hs ⟨b0, b1, b2⟩
          simp only [if_pos b0, if_pos b1, if_neg b2]
        · simp only [if_pos b0, if_neg b1]
      · simp only [if_neg b0]
theorem packEv_2 {e : Event} (hw : e.Wf) (h1 : e.kind = 2) : packEvF e = refPackEvF e := by
  have hF : evFieldsF e = some (evFields2 e) := by rw [evFieldsF, if_neg (by omega), if_pos h1]
  have hR : refEvE e = match evValsGo e (toldRF 2) (ev0 2, []) with | none => 40 | some s => if s.1 = e then 0 else 40 := by
    rw [refEvE, if_neg (by omega), h1]
    all_goals rfl
  have hm := hw.member
  have em : e.member % 18446744073709551616 = e.member := Int.emod_eq_of_lt hm.1 (by omega)
  have em2 : e.member % 4294967296 = e.member := Int.emod_eq_of_lt hm.1 (by omega)
  have v0 : ∀ s, evStepF e ⟨34, 0, 0, 0⟩ s = _ := fun s => evStep_any (n := e.seq) rfl (.inl rfl)
  have v1 : ∀ s, evStepF e ⟨11, 0, 1, 0⟩ s = _ := fun s => evStep_any (n := e.id) rfl (.inl rfl)
  have v2 : ∀ s, evStepF e ⟨41, 0, 2, 0⟩ s = _ := fun s => evStep_any (n := e.target) rfl (.inl rfl)
  have v3 : ∀ s, evStepF e ⟨103, 4294967295, 4, 32⟩ s = _ := fun s => evStep_small hw.code rfl (by decide)
  have hV : evValsGo e (toldRF 2) (ev0 2, []) = evValsGo e [⟨34, 0, 0, 0⟩, ⟨11, 0, 1, 0⟩, ⟨41, 0, 2, 0⟩, ⟨103, 4294967295, 4, 32⟩] (ev0 2, []) := rfl
  by_cases hs : (0 ≤ e.code ∧ e.code ≤ 4294967295)
  · have b0 := hs
    have m0 : e.code % 18446744073709551616 = e.code := Int.emod_eq_of_lt b0.1 (by omega)
    have f0 : s64 e.code = e.code := s64_in (by omega)
    simp only [evValsGo, v0, v1, v2, v3, if_pos b0, List.nil_append, List.cons_append] at hV
    have hs1 : evValsGo e (toldRF 2) (ev0 2, []) = some (⟨e.seq, 2, e.id, 0, e.target, 0, 0, 0, 0, 0, 0, 0, e.code⟩, [e.seq, e.id, e.target, e.code]) := by
      rw [hV]
      simp [withEventF, ev0, m0, f0, em, em2]
    have hI : eventOfF 2 (numsF (evFields2 e)) = ⟨e.seq, 2, e.id, 0, e.target, 0, 0, 0, 0, 0, 0, 0, e.code⟩ := by
      simp [evFields2, wholeF, upToF, numsF, iput, eventOfF, iget, m0, f0, em, em2]
      all_goals first | rfl | exact ⟨rfl, rfl⟩ | exact ⟨rfl, rfl, rfl⟩ | exact ⟨rfl, rfl, rfl, rfl⟩ | exact ⟨rfl, rfl, rfl, rfl, rfl⟩
    have hA : ((evFields2 e).all (·.fits)) = true := by
      simp [evFields2, wholeF, upToF, b0]
    by_cases hX : (⟨e.seq, 2, e.id, 0, e.target, 0, 0, 0, 0, 0, 0, 0, e.code⟩ : Event) = e
    · have t0 : toldEvE e = 0 := by
        rw [toldEvE, hF]
        exact if_pos ⟨hA, by rw [h1, hI]; exact hX⟩
      have r0 : refEvE e = 0 := by
        rw [hR, hs1]
        exact if_pos hX
      rw [packEvF, refPackEvF, if_pos t0, if_pos r0, hF, h1, hs1]
      have x0 : up e.seq 0 = e.seq := up_zero hw.seq
      have y0 : add64 0 e.seq = e.seq := add64_zero hw.seq
      have z0 : add64 e.seq 0 = e.seq := add64_zero' hw.seq
      have x1 : up e.id 0 = e.id := up_zero hw.id
      have y1 : add64 0 e.id = e.id := add64_zero hw.id
      have z1 : add64 e.id 0 = e.id := add64_zero' hw.id
      have x2 : up e.target 0 = e.target := up_zero hw.target
      have y2 : add64 0 e.target = e.target := add64_zero hw.target
      have z2 : add64 e.target 0 = e.target := add64_zero' hw.target
      have x3 : up e.code 0 = e.code := up_zero (by omega)
      have y3 : add64 0 e.code = e.code := add64_zero (by omega)
      have z3 : add64 e.code 0 = e.code := add64_zero' (by omega)
      have zz : add64 0 0 = 0 := rfl
      simp [evFrameF, laidF, toldRF, laidGo, laidStep, evFields2, wholeF, upToF, numsF, iput, iget, up_none, add64_add0, zz, m0, f0, em, em2, x0, y0, z0, x1, y1, z1, x2, y2, z2, x3, y3, z3]
    · refine packEv_err (e := 40) (by decide) ?_ ?_
      · rw [toldEvE, hF]
        exact if_neg (fun h => hX (by rw [← hI, ← h1]; exact h.2))
      · rw [hR, hs1]
        exact if_neg hX
  · refine packEv_err (e := 40) (by decide) ?_ ?_
    · rw [toldEvE, hF]
      refine if_neg (fun h => hs ?_)
      have := h.1
      simpa [evFields2, wholeF, upToF, and_assoc] using this
    · rw [hR, hV]
      simp only [evValsGo, v0, v1, v2, v3]
      have b0 : ¬ (0 ≤ e.code ∧ e.code ≤ 4294967295) := fun b0 => hs b0
      simp only [if_neg b0]
theorem packEv_3 {e : Event} (hw : e.Wf) (h1 : e.kind = 3) : packEvF e = refPackEvF e := by
  have hF : evFieldsF e = some (evFields3 e) := by rw [evFieldsF, if_neg (by omega), if_neg (by omega), if_pos h1]
  have hR : refEvE e = match evValsGo e (toldRF 3) (ev0 3, []) with | none => 40 | some s => if s.1 = e then 0 else 40 := by
    rw [refEvE, if_neg (by omega), h1]
    all_goals rfl
  have hm := hw.member
  have em : e.member % 18446744073709551616 = e.member := Int.emod_eq_of_lt hm.1 (by omega)
  have em2 : e.member % 4294967296 = e.member := Int.emod_eq_of_lt hm.1 (by omega)
  have v0 : ∀ s, evStepF e ⟨34, 0, 0, 0⟩ s = _ := fun s => evStep_any (n := e.seq) rfl (.inl rfl)
  have v1 : ∀ s, evStepF e ⟨11, 0, 1, 0⟩ s = _ := fun s => evStep_any (n := e.id) rfl (.inl rfl)
  have v2 : ∀ s, evStepF e ⟨37, 0, 2, 0⟩ s = _ := fun s => evStep_any (n := e.other) rfl (.inl rfl)
  have v3 : ∀ s, evStepF e ⟨54, 255, 3, 32⟩ s = _ := fun s => evStep_small hw.side rfl (by decide)
  have v4 : ∀ s, evStepF e ⟨44, 4294967295, 4, 0⟩ s = _ := fun s => evStep_small hw.price rfl (by decide)
  have v5 : ∀ s, evStepF e ⟨38, 0, 5, 0⟩ s = _ := fun s => evStep_any (n := e.qty) rfl (.inl rfl)
  have hV : evValsGo e (toldRF 3) (ev0 3, []) = evValsGo e [⟨34, 0, 0, 0⟩, ⟨11, 0, 1, 0⟩, ⟨37, 0, 2, 0⟩, ⟨54, 255, 3, 32⟩, ⟨44, 4294967295, 4, 0⟩, ⟨38, 0, 5, 0⟩] (ev0 3, []) := rfl
  by_cases hs : (0 ≤ e.side ∧ e.side ≤ 255) ∧ (0 ≤ e.price ∧ e.price ≤ 4294967295)
  · obtain ⟨b0, b1⟩ := hs
    have m0 : e.side % 18446744073709551616 = e.side := Int.emod_eq_of_lt b0.1 (by omega)
    have f0 : s64 e.side = e.side := s64_in (by omega)
    have m1 : e.price % 18446744073709551616 = e.price := Int.emod_eq_of_lt b1.1 (by omega)
    have f1 : s64 e.price = e.price := s64_in (by omega)
    simp only [evValsGo, v0, v1, v2, v3, v4, v5, if_pos b0, if_pos b1, List.nil_append, List.cons_append] at hV
    have hs1 : evValsGo e (toldRF 3) (ev0 3, []) = some (⟨e.seq, 3, e.id, e.other, 0, 0, e.side, 0, e.price, e.qty, 0, 0, 0⟩, [e.seq, e.id, e.other, e.side, e.price, e.qty]) := by
      rw [hV]
      simp [withEventF, ev0, m0, f0, m1, f1, em, em2]
    have hI : eventOfF 3 (numsF (evFields3 e)) = ⟨e.seq, 3, e.id, e.other, 0, 0, e.side, 0, e.price, e.qty, 0, 0, 0⟩ := by
      simp [evFields3, wholeF, upToF, numsF, iput, eventOfF, iget, m0, f0, m1, f1, em, em2]
      all_goals first | rfl | exact ⟨rfl, rfl⟩ | exact ⟨rfl, rfl, rfl⟩ | exact ⟨rfl, rfl, rfl, rfl⟩ | exact ⟨rfl, rfl, rfl, rfl, rfl⟩
    have hA : ((evFields3 e).all (·.fits)) = true := by
      simp [evFields3, wholeF, upToF, b0, b1]
    by_cases hX : (⟨e.seq, 3, e.id, e.other, 0, 0, e.side, 0, e.price, e.qty, 0, 0, 0⟩ : Event) = e
    · have t0 : toldEvE e = 0 := by
        rw [toldEvE, hF]
        exact if_pos ⟨hA, by rw [h1, hI]; exact hX⟩
      have r0 : refEvE e = 0 := by
        rw [hR, hs1]
        exact if_pos hX
      rw [packEvF, refPackEvF, if_pos t0, if_pos r0, hF, h1, hs1]
      have x0 : up e.seq 0 = e.seq := up_zero hw.seq
      have y0 : add64 0 e.seq = e.seq := add64_zero hw.seq
      have z0 : add64 e.seq 0 = e.seq := add64_zero' hw.seq
      have x1 : up e.id 0 = e.id := up_zero hw.id
      have y1 : add64 0 e.id = e.id := add64_zero hw.id
      have z1 : add64 e.id 0 = e.id := add64_zero' hw.id
      have x2 : up e.other 0 = e.other := up_zero hw.other
      have y2 : add64 0 e.other = e.other := add64_zero hw.other
      have z2 : add64 e.other 0 = e.other := add64_zero' hw.other
      have x3 : up e.side 0 = e.side := up_zero (by omega)
      have y3 : add64 0 e.side = e.side := add64_zero (by omega)
      have z3 : add64 e.side 0 = e.side := add64_zero' (by omega)
      have x4 : up e.price 0 = e.price := up_zero (by omega)
      have y4 : add64 0 e.price = e.price := add64_zero (by omega)
      have z4 : add64 e.price 0 = e.price := add64_zero' (by omega)
      have x5 : up e.qty 0 = e.qty := up_zero hw.qty
      have y5 : add64 0 e.qty = e.qty := add64_zero hw.qty
      have z5 : add64 e.qty 0 = e.qty := add64_zero' hw.qty
      have zz : add64 0 0 = 0 := rfl
      simp [evFrameF, laidF, toldRF, laidGo, laidStep, evFields3, wholeF, upToF, numsF, iput, iget, up_none, add64_add0, zz, m0, f0, m1, f1, em, em2, x0, y0, z0, x1, y1, z1, x2, y2, z2, x3, y3, z3, x4, y4, z4, x5, y5, z5]
    · refine packEv_err (e := 40) (by decide) ?_ ?_
      · rw [toldEvE, hF]
        exact if_neg (fun h => hX (by rw [← hI, ← h1]; exact h.2))
      · rw [hR, hs1]
        exact if_neg hX
  · refine packEv_err (e := 40) (by decide) ?_ ?_
    · rw [toldEvE, hF]
      refine if_neg (fun h => hs ?_)
      have := h.1
      simpa [evFields3, wholeF, upToF, and_assoc] using this
    · rw [hR, hV]
      simp only [evValsGo, v0, v1, v2, v3, v4, v5]
      by_cases b0 : 0 ≤ e.side ∧ e.side ≤ 255
      · skip
        have b1 : ¬ (0 ≤ e.price ∧ e.price ≤ 4294967295) := fun b1 => hs ⟨b0, b1⟩
        simp only [if_pos b0, if_neg b1]
      · simp only [if_neg b0]
theorem packEv_4 {e : Event} (hw : e.Wf) (h1 : e.kind = 4) : packEvF e = refPackEvF e := by
  have hF : evFieldsF e = some (evFields4 e) := by rw [evFieldsF, if_neg (by omega), if_neg (by omega), if_neg (by omega), if_pos h1]
  have hR : refEvE e = match evValsGo e (toldRF 4) (ev0 4, []) with | none => 40 | some s => if s.1 = e then 0 else 40 := by
    rw [refEvE, if_neg (by omega), h1]
    all_goals rfl
  have hm := hw.member
  have em : e.member % 18446744073709551616 = e.member := Int.emod_eq_of_lt hm.1 (by omega)
  have em2 : e.member % 4294967296 = e.member := Int.emod_eq_of_lt hm.1 (by omega)
  have v0 : ∀ s, evStepF e ⟨34, 0, 0, 0⟩ s = _ := fun s => evStep_any (n := e.seq) rfl (.inl rfl)
  have v1 : ∀ s, evStepF e ⟨11, 0, 1, 0⟩ s = _ := fun s => evStep_any (n := e.id) rfl (.inl rfl)
  have v2 : ∀ s, evStepF e ⟨38, 0, 5, 0⟩ s = _ := fun s => evStep_any (n := e.qty) rfl (.inl rfl)
  have v3 : ∀ s, evStepF e ⟨378, 255, 3, 48⟩ s = _ := fun s => evStep_small hw.reason rfl (by decide)
  have hV : evValsGo e (toldRF 4) (ev0 4, []) = evValsGo e [⟨34, 0, 0, 0⟩, ⟨11, 0, 1, 0⟩, ⟨38, 0, 5, 0⟩, ⟨378, 255, 3, 48⟩] (ev0 4, []) := rfl
  by_cases hs : (0 ≤ e.reason ∧ e.reason ≤ 255)
  · have b0 := hs
    have m0 : e.reason % 18446744073709551616 = e.reason := Int.emod_eq_of_lt b0.1 (by omega)
    have f0 : s64 e.reason = e.reason := s64_in (by omega)
    simp only [evValsGo, v0, v1, v2, v3, if_pos b0, List.nil_append, List.cons_append] at hV
    have hs1 : evValsGo e (toldRF 4) (ev0 4, []) = some (⟨e.seq, 4, e.id, 0, 0, 0, 0, 0, 0, e.qty, 0, e.reason, 0⟩, [e.seq, e.id, e.qty, e.reason]) := by
      rw [hV]
      simp [withEventF, ev0, m0, f0, em, em2]
    have hI : eventOfF 4 (numsF (evFields4 e)) = ⟨e.seq, 4, e.id, 0, 0, 0, 0, 0, 0, e.qty, 0, e.reason, 0⟩ := by
      simp [evFields4, wholeF, upToF, numsF, iput, eventOfF, iget, m0, f0, em, em2]
      all_goals first | rfl | exact ⟨rfl, rfl⟩ | exact ⟨rfl, rfl, rfl⟩ | exact ⟨rfl, rfl, rfl, rfl⟩ | exact ⟨rfl, rfl, rfl, rfl, rfl⟩
    have hA : ((evFields4 e).all (·.fits)) = true := by
      simp [evFields4, wholeF, upToF, b0]
    by_cases hX : (⟨e.seq, 4, e.id, 0, 0, 0, 0, 0, 0, e.qty, 0, e.reason, 0⟩ : Event) = e
    · have t0 : toldEvE e = 0 := by
        rw [toldEvE, hF]
        exact if_pos ⟨hA, by rw [h1, hI]; exact hX⟩
      have r0 : refEvE e = 0 := by
        rw [hR, hs1]
        exact if_pos hX
      rw [packEvF, refPackEvF, if_pos t0, if_pos r0, hF, h1, hs1]
      have x0 : up e.seq 0 = e.seq := up_zero hw.seq
      have y0 : add64 0 e.seq = e.seq := add64_zero hw.seq
      have z0 : add64 e.seq 0 = e.seq := add64_zero' hw.seq
      have x1 : up e.id 0 = e.id := up_zero hw.id
      have y1 : add64 0 e.id = e.id := add64_zero hw.id
      have z1 : add64 e.id 0 = e.id := add64_zero' hw.id
      have x2 : up e.qty 0 = e.qty := up_zero hw.qty
      have y2 : add64 0 e.qty = e.qty := add64_zero hw.qty
      have z2 : add64 e.qty 0 = e.qty := add64_zero' hw.qty
      have x3 : up e.reason 0 = e.reason := up_zero (by omega)
      have y3 : add64 0 e.reason = e.reason := add64_zero (by omega)
      have z3 : add64 e.reason 0 = e.reason := add64_zero' (by omega)
      have zz : add64 0 0 = 0 := rfl
      simp [evFrameF, laidF, toldRF, laidGo, laidStep, evFields4, wholeF, upToF, numsF, iput, iget, up_none, add64_add0, zz, m0, f0, em, em2, x0, y0, z0, x1, y1, z1, x2, y2, z2, x3, y3, z3]
    · refine packEv_err (e := 40) (by decide) ?_ ?_
      · rw [toldEvE, hF]
        exact if_neg (fun h => hX (by rw [← hI, ← h1]; exact h.2))
      · rw [hR, hs1]
        exact if_neg hX
  · refine packEv_err (e := 40) (by decide) ?_ ?_
    · rw [toldEvE, hF]
      refine if_neg (fun h => hs ?_)
      have := h.1
      simpa [evFields4, wholeF, upToF, and_assoc] using this
    · rw [hR, hV]
      simp only [evValsGo, v0, v1, v2, v3]
      have b0 : ¬ (0 ≤ e.reason ∧ e.reason ≤ 255) := fun b0 => hs b0
      simp only [if_neg b0]
theorem packEv_5 {e : Event} (hw : e.Wf) (h1 : e.kind = 5) : packEvF e = refPackEvF e := by
  have hF : evFieldsF e = some (evFields5 e) := by rw [evFieldsF, if_neg (by omega), if_neg (by omega), if_neg (by omega), if_neg (by omega), if_pos h1]
  have hR : refEvE e = match evValsGo e (toldRF 5) (ev0 5, []) with | none => 40 | some s => if s.1 = e then 0 else 40 := by
    rw [refEvE, if_neg (by omega), h1]
    all_goals rfl
  have hm := hw.member
  have em : e.member % 18446744073709551616 = e.member := Int.emod_eq_of_lt hm.1 (by omega)
  have em2 : e.member % 4294967296 = e.member := Int.emod_eq_of_lt hm.1 (by omega)
  have v0 : ∀ s, evStepF e ⟨34, 0, 0, 0⟩ s = _ := fun s => evStep_any (n := e.seq) rfl (.inl rfl)
  have v1 : ∀ s, evStepF e ⟨11, 0, 1, 0⟩ s = _ := fun s => evStep_any (n := e.id) rfl (.inl rfl)
  have v2 : ∀ s, evStepF e ⟨44, 4294967295, 4, 0⟩ s = _ := fun s => evStep_small hw.price rfl (by decide)
  have v3 : ∀ s, evStepF e ⟨38, 0, 5, 0⟩ s = _ := fun s => evStep_any (n := e.qty) rfl (.inl rfl)
  have hV : evValsGo e (toldRF 5) (ev0 5, []) = evValsGo e [⟨34, 0, 0, 0⟩, ⟨11, 0, 1, 0⟩, ⟨44, 4294967295, 4, 0⟩, ⟨38, 0, 5, 0⟩] (ev0 5, []) := rfl
  by_cases hs : (0 ≤ e.price ∧ e.price ≤ 4294967295)
  · have b0 := hs
    have m0 : e.price % 18446744073709551616 = e.price := Int.emod_eq_of_lt b0.1 (by omega)
    have f0 : s64 e.price = e.price := s64_in (by omega)
    simp only [evValsGo, v0, v1, v2, v3, if_pos b0, List.nil_append, List.cons_append] at hV
    have hs1 : evValsGo e (toldRF 5) (ev0 5, []) = some (⟨e.seq, 5, e.id, 0, 0, 0, 0, 0, e.price, e.qty, 0, 0, 0⟩, [e.seq, e.id, e.price, e.qty]) := by
      rw [hV]
      simp [withEventF, ev0, m0, f0, em, em2]
    have hI : eventOfF 5 (numsF (evFields5 e)) = ⟨e.seq, 5, e.id, 0, 0, 0, 0, 0, e.price, e.qty, 0, 0, 0⟩ := by
      simp [evFields5, wholeF, upToF, numsF, iput, eventOfF, iget, m0, f0, em, em2]
      all_goals first | rfl | exact ⟨rfl, rfl⟩ | exact ⟨rfl, rfl, rfl⟩ | exact ⟨rfl, rfl, rfl, rfl⟩ | exact ⟨rfl, rfl, rfl, rfl, rfl⟩
    have hA : ((evFields5 e).all (·.fits)) = true := by
      simp [evFields5, wholeF, upToF, b0]
    by_cases hX : (⟨e.seq, 5, e.id, 0, 0, 0, 0, 0, e.price, e.qty, 0, 0, 0⟩ : Event) = e
    · have t0 : toldEvE e = 0 := by
        rw [toldEvE, hF]
        exact if_pos ⟨hA, by rw [h1, hI]; exact hX⟩
      have r0 : refEvE e = 0 := by
        rw [hR, hs1]
        exact if_pos hX
      rw [packEvF, refPackEvF, if_pos t0, if_pos r0, hF, h1, hs1]
      have x0 : up e.seq 0 = e.seq := up_zero hw.seq
      have y0 : add64 0 e.seq = e.seq := add64_zero hw.seq
      have z0 : add64 e.seq 0 = e.seq := add64_zero' hw.seq
      have x1 : up e.id 0 = e.id := up_zero hw.id
      have y1 : add64 0 e.id = e.id := add64_zero hw.id
      have z1 : add64 e.id 0 = e.id := add64_zero' hw.id
      have x2 : up e.price 0 = e.price := up_zero (by omega)
      have y2 : add64 0 e.price = e.price := add64_zero (by omega)
      have z2 : add64 e.price 0 = e.price := add64_zero' (by omega)
      have x3 : up e.qty 0 = e.qty := up_zero hw.qty
      have y3 : add64 0 e.qty = e.qty := add64_zero hw.qty
      have z3 : add64 e.qty 0 = e.qty := add64_zero' hw.qty
      have zz : add64 0 0 = 0 := rfl
      simp [evFrameF, laidF, toldRF, laidGo, laidStep, evFields5, wholeF, upToF, numsF, iput, iget, up_none, add64_add0, zz, m0, f0, em, em2, x0, y0, z0, x1, y1, z1, x2, y2, z2, x3, y3, z3]
    · refine packEv_err (e := 40) (by decide) ?_ ?_
      · rw [toldEvE, hF]
        exact if_neg (fun h => hX (by rw [← hI, ← h1]; exact h.2))
      · rw [hR, hs1]
        exact if_neg hX
  · refine packEv_err (e := 40) (by decide) ?_ ?_
    · rw [toldEvE, hF]
      refine if_neg (fun h => hs ?_)
      have := h.1
      simpa [evFields5, wholeF, upToF, and_assoc] using this
    · rw [hR, hV]
      simp only [evValsGo, v0, v1, v2, v3]
      have b0 : ¬ (0 ≤ e.price ∧ e.price ≤ 4294967295) := fun b0 => hs b0
      simp only [if_neg b0]
theorem packEv_none {e : Event} (h : ¬ (1 ≤ e.kind ∧ e.kind ≤ 5)) : packEvF e = refPackEvF e := by
  have hF : evFieldsF e = none := by rw [evFieldsF, if_neg (by omega), if_neg (by omega), if_neg (by omega), if_neg (by omega), if_neg (by omega)]
  refine packEv_err (e := 41) (by decide) ?_ ?_
  · rw [toldEvE, hF]
  · exact if_pos h
theorem packEv_eq {e : Event} (hw : e.Wf) : packEvF e = refPackEvF e := by
  by_cases h : 1 ≤ e.kind ∧ e.kind ≤ 5
  · have : e.kind = 1 ∨ e.kind = 2 ∨ e.kind = 3 ∨ e.kind = 4 ∨ e.kind = 5 := by omega
    rcases this with h | h | h | h | h
    · exact packEv_1 hw h
    · exact packEv_2 hw h
    · exact packEv_3 hw h
    · exact packEv_4 hw h
    · exact packEv_5 hw h
  · exact packEv_none h
end Go.Rx
/- Fields as a line has them; the program's Line. -/
namespace Go.Rx
open Go Go.RowKit Go.Lib Go.Proofs.YthpejgmkiomfhaaDoor
set_option linter.unusedVariables false
set_option linter.unusedSimpArgs false
def tgOf (f : Fld) : Tg := ⟨f.tag, decS f.num.toNat⟩
def Fld.fine (f : Fld) : Prop := 0 ≤ f.num ∧ f.num ≤ 18446744073709551615
set_option maxHeartbeats 2000000 in
set_option maxRecDepth 100000 in
theorem msgTagged {w : World} {v : Value} {fs : List Fld} (hs : RSl Fld.enc 3 w [] v fs) (hf : ∀ f ∈ fs, f.fine) (h8 : fs.length ≤ 64) (hL : LaidT w) :
    Spec Go.Proofs.Tryd.prog 19 #[v] w [] (fun u N => ∃ A c, u = .slice A (fs.map tgOf).length c ∧ N = [tagsC (.slice A (fs.map tgOf).length c) (fs.map tgOf)]) := by
  refine Spec.enter (fn := Go.Proofs.Tryd.f19) (n := 23) [v] Go.Proofs.Tryd.func19 (by kernel_rfl) rfl Go.Proofs.Tryd.ntmps19 Go.Proofs.Tryd.results19 rfl (Own.nil _) ?_
  refine JC.re (fun w h => h.nilOwn 68 2) ?_
  refine JC.rs ?_
  refine Seq.p rfl Ev.assign ?_
  refine Seq.nil ?_
  refine JC.rs ?_
  refine Seq.p rfl Ev.assign ?_
  refine Seq.nil ?_
  refine JC.seq ?_
  refine JC.rs ?_
  refine Seq.p rfl Ev.move ?_
  refine Seq.p rfl (Ev.lenSl sl.sl_message_field (hr := hs.r)) ?_
  refine Seq.p rfl Ev.move ?_
  refine Seq.nil ?_
  refine JC.blk ?_
  refine JC.loop (α := Nat) (I := fun i e1 H1 => ∃ A c xs, Has [3, 5, 8, 9, 10, 11, 12, 13, 14, 15, 16, 17, 18, 19, 20, 21] [(3, .slice A xs.length c), (8, .int .i64 (i : Int))] _ e1 ∧ H1 = [tagsC (.slice A xs.length c) xs] ∧ i ≤ fs.length ∧ xs = (fs.take i).map tgOf) (μ := fun i => fs.length - i) 0 ⟨none, 0, [], Has.mk Off.refl (allLook_cons (by repeat (first | exact Look.here | apply Look.there (hne := rfl) | exact Look.const | apply Look.mix rfl | exact Look.arg0 | apply Look.args | exact Look.func)) (allLook_cons (by repeat (first | exact Look.here | apply Look.there (hne := rfl) | exact Look.const | apply Look.mix rfl | exact Look.arg0 | apply Look.args | exact Look.func)) allLook_nil)), rfl, by omega, rfl⟩ ?_
  rintro i _ _ ⟨A, c, xs, ⟨u, rfl⟩, rfl, hi, hx⟩; dsimp only [setL]
  refine JC.rs ?_
  refine Seq.p rfl Ev.lt ?_
  refine Seq.nil ?_
  refine JC.seq ?_
  first | refine JC.c (ht := fun c9 => ?_) (hf := fun c9 => ?_) | refine JC.cb (ht := fun c9 => ?_) (hf := fun c9 => ?_)
  · -- then_t9
    have hi2 : i < fs.length := by omega
    have hfi := hf _ (get_memS hi2)
    unfold Fld.fine at hfi
    have hxl : xs.length = i := by rw [hx, List.length_map, List.length_take]; omega
    have hxs : xs ++ [tgOf fs[i]!] = (fs.take (i + 1)).map tgOf := by rw [hx, List.take_succ_eq_append_getElem hi2, List.map_append, getElem!_pos fs i hi2]; rfl
    have hdec : ∀ {w' : World} {H : List Chunk}, Upd w w' [] H → Spec Go.Proofs.Tryd.prog 28 #[.int .u64 (fs[i]!).num] w' [] (fun u _ => u = .string (decS (fs[i]!).num.toNat)) := fun hw => by
      have h := textDecimal (u := (fs[i]!).num.toNat) (by omega) (hL.upd hw)
      rw [show (((fs[i]!).num.toNat : Nat) : Int) = (fs[i]!).num by omega] at h
      exact h
    refine JC.skip ?_
    refine JC.seq ?_
    refine JC.blk ?_
    refine JC.rs ?_
    refine Seq.p rfl (Ev.iaN sl.sl_message_field (hr := hs.r)) ?_
    refine Seq.p rfl (Ev.ldEA ag.message_field (hr := hs.r)) ?_
    refine Seq.alloc (cs := [_, _, _]) (hz := z.message_field) (k := ?_); intro b5
    refine Seq.storeN [_, _, _] sz.message_field (k := ?_)
    refine Seq.nil ?_
    refine JC.anyE 1 mixed ?_
    refine Any.p 0 rfl (by kernel_rfl) (by kernel_rfl) (by kernel_rfl) rfl Ev.move ?_
    refine Any.p 1 rfl (by kernel_rfl) (by kernel_rfl) (by kernel_rfl) rfl (Ev.faB fd.message_field_0) ?_
    refine Any.p 2 rfl (by kernel_rfl) (by kernel_rfl) (by kernel_rfl) rfl (Ev.ldB sc.int) ?_
    refine Any.p 3 rfl (by kernel_rfl) (by kernel_rfl) (by kernel_rfl) rfl (Ev.faB fd.message_field_1) ?_
    refine Any.p 4 rfl (by kernel_rfl) (by kernel_rfl) (by kernel_rfl) rfl (Ev.ldB sc.uint64) ?_
    refine Any.call 5 rfl (by kernel_rfl) (by kernel_rfl) (by kernel_rfl) rfl (fun w hw => hdec hw) ?_
    refine Any.p 6 rfl (by kernel_rfl) (by kernel_rfl) (by kernel_rfl) rfl (Ev.buildN [_, _] pl.api_Tag z.api_Tag) ?_
    refine Any.one 7 rfl (by kernel_rfl) ?_
    refine Seq.buildSlN [_, _] (hsl := sl.sl_api_Tag) (hz := z.api_Tag) (k := ?_); intro b19
    refine Seq.nil ⟨(by repeat (first | exact Part.refl _ | exact Part.nil _ | apply Part.here | apply Part.skip)), ?_⟩
    refine Any.one 8 rfl (by kernel_rfl) ?_
    refine Seq.append (hsl := sl.sl_api_Tag) (he := el.api_Tag) (hsrc := (fun w' hw => Src.box (hl := by rfl) (hc := fun q u hu => hu) sl.sl_api_Tag At.z hw)) (k := ?_); intro A20 c20
    refine Seq.nil ⟨(by repeat (first | exact Part.refl _ | exact Part.nil _ | apply Part.here | apply Part.skip)), ?_⟩
    refine Any.p 9 rfl (by kernel_rfl) (by kernel_rfl) (by kernel_rfl) rfl Ev.assign ?_
    refine Any.done (by kernel_rfl) ?_
    refine JC.reg ?_
    refine Seq.p rfl (by first | exact Ev.inc | exact Ev.add) ?_
    refine Seq.p rfl Ev.move ?_
    refine Seq.nil ?_
    have hst : tagsC (.slice A20 (xs ++ [tgOf fs[i]!]).length c20) (xs ++ [tgOf fs[i]!]) = .own 68 2 (.slice A20 (xs.length + 1) c20) (xs.length + 1) (xs.flatMap Tg.enc ++ [.int .i64 (fs[i]!).tag, .string (decS (fs[i]!).num.toNat)]) := by simp [tagsC, Tg.enc, tgOf, List.flatMap_append]
    refine ⟨i + 1, [_], Part.skip (Part.skip (Part.refl _)), ⟨A20, c20, xs ++ [tgOf fs[i]!], Has.mk (by repeat (first | refine Off.upd ?_ rfl | exact Off.mix | refine Off.mix2 ?_ rfl | exact Off.refl)) (allLook_cons (by rw [List.length_append]; exact (by repeat (first | exact Look.here | apply Look.there (hne := rfl) | exact Look.const | apply Look.mix rfl | exact Look.arg0 | apply Look.args | exact Look.func))) (allLook_cons (by repeat (first | exact Look.here | apply Look.there (hne := rfl) | exact Look.const | apply Look.mix rfl | exact Look.arg0 | apply Look.args | exact Look.func)) allLook_nil)), by rw [hst], by omega, hxs⟩, by omega⟩
  · -- else_t9
    obtain rfl : i = fs.length := by omega
    rw [List.take_length] at hx
    subst hx
    refine JC.exit ?_ -- 0
    refine JC.rs ?_
    refine Seq.p rfl Ev.move ?_
    refine Seq.p rfl Ev.assign ?_
    refine Seq.nil ?_
    refine JC.ret ?_
    -- return 0
    show retQ _ _ _ _ _ _ _ _
    refine ret1 (hp := Part.refl _) (hpost := ?_)
    exact ⟨A, c, rfl, rfl⟩
theorem flat_small {α : Type} (f : α → List Int) (k : Nat) : ∀ (xs : List α), (∀ x ∈ xs, (f x).length ≤ k) → (xs.flatMap f).length ≤ k * xs.length
  | [], _ => by simp
  | x :: r, h => by
    have h1 := h x (List.mem_cons_self ..)
    have h2 := flat_small f k r (fun y hy => h y (List.mem_cons_of_mem _ hy))
    rw [List.flatMap_cons, List.length_append, List.length_cons, Nat.mul_add]
    omega
/-- Tags with small values: the body is short. -/
theorem body_short {kind : ByteArray} {xs : List Tg} (hk : kind.size ≤ 2) (hl : xs.length ≤ 64) (hx : ∀ t ∈ xs, t.tag.toNat < 10000 ∧ t.value.size ≤ 20) : (bodyL kind xs).length ≤ 1099511627776 := by
  unfold bodyL
  rw [List.length_append, field_len]
  have h1 := decL_four (n := 35) (by decide)
  have h2 := flat_small (fun t : Tg => fieldL t.tag.toNat t.value) 26 xs (fun t ht => by
    obtain ⟨a, b⟩ := hx t ht
    have := decL_four a
    rw [field_len]
    omega)
  omega
theorem tgOf_fine {f : Fld} (h : f.fine) : (tgOf f).value.size ≤ 20 := by
  unfold Fld.fine at h
  have := decS_facts (n := f.num.toNat) (by omega)
  exact this.2.1
theorem fieldsF_fine {i : Input} (hw : i.Wf) {k : Int} {s : ByteArray} {fs : List Fld} (h : fieldsF i = some (k, s, fs)) : s.size ≤ 2 ∧ ∀ f ∈ fs, f.fine ∧ f.tag.toNat < 10000 := by
  have hup : ∀ t n m : Int, t.toNat < 10000 → (upToF t n m).fine ∧ (upToF t n m).tag.toNat < 10000 := fun t n m ht => ⟨⟨by show 0 ≤ n % _; omega, by show n % _ ≤ _; omega⟩, ht⟩
  have hwh : ∀ t n : Int, t.toNat < 10000 → 0 ≤ n ∧ n ≤ 18446744073709551615 → (wholeF t n).fine ∧ (wholeF t n).tag.toNat < 10000 := fun t n ht hn => ⟨hn, ht⟩
  unfold fieldsF at h
  repeat (first | (split at h) | (simp only [Option.some.injEq, Prod.mk.injEq] at h; obtain ⟨_, rfl, rfl⟩ := h; refine ⟨by show _ ≤ 2; decide, fun f hf => ?_⟩; simp only [List.mem_cons, List.not_mem_nil, or_false] at hf; (repeat (first | (rcases hf with rfl | hf; · first | exact hup _ _ _ (by decide) | exact hwh _ _ (by decide) (by have := hw.id; have := hw.target; have := hw.member; have := hw.qty; have := hw.peak; omega)) | (subst hf; first | exact hup _ _ _ (by decide) | exact hwh _ _ (by decide) (by have := hw.id; have := hw.target; have := hw.member; have := hw.qty; have := hw.peak; omega))))) | cases h)
def lineF (i : Input) : Int × List Int :=
  if toldE i = 0 then match fieldsF i with | some (_, s, fs) => encF s (fs.map tgOf) | none => (0, [])
  else (toldE i, [])
end Go.Rx
/- The program's Line. -/
namespace Go.Rx
open Go Go.RowKit Go.Lib Go.Proofs.YthpejgmkiomfhaaDoor
set_option linter.unusedVariables false
set_option linter.unusedSimpArgs false
def LinePost (l : Int × List Int) (u : Value) (H' : List Chunk) : Prop := ∃ A c, u = .tuple #[.slice A l.2.length c, .int .i64 l.1] ∧ H' = [bytesC (.slice A l.2.length c) l.2]
theorem lineF_err {i : Input} (h : ¬ toldE i = 0) : lineF i = (toldE i, []) := if_neg h
theorem lineF_ok {i : Input} {k : Int} {s : ByteArray} {fs : List Fld} (h : toldE i = 0) (hF : fieldsF i = some (k, s, fs)) : lineF i = encF s (fs.map tgOf) := by
  unfold lineF
  rw [if_pos h, hF]
theorem encF_len (kind : ByteArray) (xs : List Tg) : (encF kind xs).2.length ≤ 2048 := by
  unfold encF
  split
  · exact Nat.zero_le _
  · split
    · exact Nat.zero_le _
    · split
      · exact Nat.zero_le _
      · split
        · exact Nat.zero_le _
        · rename_i h
          show (lineL kind xs).length ≤ 2048
          omega
set_option maxHeartbeats 2000000 in
set_option maxRecDepth 100000 in
theorem msgLine0 {w : World} {i : Input} (hE : ¬ toldE i = 0) : Spec Go.Proofs.Tryd.prog 6 #[.agg i.enc.toArray] w [] (LinePost (lineF i)) := by
  refine Spec.enter (fn := Go.Proofs.Tryd.f6) (n := 26) [.agg i.enc.toArray] Go.Proofs.Tryd.func6 (by kernel_rfl) rfl Go.Proofs.Tryd.ntmps6 Go.Proofs.Tryd.results6 rfl (Own.nil _) ?_
  refine JC.re (fun w h => h.nilOwn 5 1) ?_
  refine JC.rs ?_
  refine Seq.box (cs := [_, _, _, _, _, _, _, _, _, _, _]) (k := ?_); intro b1
  refine Seq.p rfl Ev.assign ?_
  refine Seq.p rfl Ev.assign ?_
  refine Seq.nil ?_
  refine JC.rs ?_
  refine Seq.p rfl (Ev.ldBA ag.api_Input) ?_
  refine Seq.call rfl (fun w hw => msgTold) (F := _) (by exact List.Perm.refl _) ?_
  intro u N hN
  rw [ToldPost, if_neg hE] at hN
  subst hN
  refine Seq.re (fun w h => h.part ⟨N, List.perm_append_comm⟩) ?_
  refine Seq.p rfl Ev.move ?_
  refine Seq.p rfl Ev.extract ?_
  refine Seq.p rfl Ev.extract ?_
  refine Seq.p rfl Ev.extract ?_
  refine Seq.p rfl Ev.extract ?_
  refine Seq.p rfl Ev.extract ?_
  refine Seq.p rfl Ev.assign ?_
  refine Seq.p rfl Ev.assign ?_
  refine Seq.p rfl Ev.assign ?_
  refine Seq.p rfl Ev.assign ?_
  refine Seq.p rfl Ev.assign ?_
  refine Seq.nil ?_
  refine JC.seq ?_
  refine JC.rs ?_
  refine Seq.p rfl Ev.move ?_
  refine Seq.p rfl Ev.ne ?_
  refine Seq.nil ?_
  first | refine JC.c (ht := fun c18 => ?_) (hf := fun c18 => ?_) | refine JC.cb (ht := fun c18 => ?_) (hf := fun c18 => ?_)
  · -- then_t18
    refine JC.rs ?_
    refine Seq.p rfl Ev.move ?_
    refine Seq.p rfl Ev.assign ?_
    refine Seq.p rfl Ev.assign ?_
    refine Seq.nil ?_
    refine JC.ret ?_
    -- return 0
    show retQ _ _ _ _ _ _ _ _
    refine ret2 (H' := [bytesC (.slice none 0 0) []]) (hp := (by repeat (first | exact Part.nil _ | refine Part.at (by repeat (first | exact At.z | apply At.s)) ?_))) (hpost := ?_)
    rw [lineF_err hE]
    exact ⟨none, 0, rfl, rfl⟩
  · -- else_t18
    exact absurd hE c18
set_option maxHeartbeats 2000000 in
set_option maxRecDepth 100000 in
theorem msgLine1 {w : World} {i : Input} (hw0 : i.Wf) (hE : toldE i = 0) (hL : LaidT w) : Spec Go.Proofs.Tryd.prog 6 #[.agg i.enc.toArray] w [] (LinePost (lineF i)) := by
  refine Spec.enter (fn := Go.Proofs.Tryd.f6) (n := 26) [.agg i.enc.toArray] Go.Proofs.Tryd.func6 (by kernel_rfl) rfl Go.Proofs.Tryd.ntmps6 Go.Proofs.Tryd.results6 rfl (Own.nil _) ?_
  refine JC.rs ?_
  refine Seq.box (cs := [_, _, _, _, _, _, _, _, _, _, _]) (k := ?_); intro b1
  refine Seq.p rfl Ev.assign ?_
  refine Seq.p rfl Ev.assign ?_
  refine Seq.nil ?_
  refine JC.rs ?_
  refine Seq.p rfl (Ev.ldBA ag.api_Input) ?_
  refine Seq.call rfl (fun w hw => msgTold) (F := _) (by exact List.Perm.refl _) ?_
  intro u N hN
  rw [ToldPost, if_pos hE] at hN
  obtain ⟨k, s, fs, b1, b3, hF, rfl, rfl⟩ := hN
  have hfl := lineF_ok hE hF
  obtain ⟨hs2, hfi⟩ := fieldsF_fine hw0 hF
  have h7 := fieldsF_small hF
  obtain ⟨xs, hxs⟩ : ∃ x, x = fs.map tgOf := ⟨_, rfl⟩
  have hxl : xs.length = fs.length := by rw [hxs, List.length_map]
  have hxf : ∀ t ∈ xs, t.tag.toNat < 10000 ∧ t.value.size ≤ 20 := fun t ht => by
    rw [hxs] at ht
    obtain ⟨f, hf, rfl⟩ := List.mem_map.1 ht
    exact ⟨(hfi f hf).2, tgOf_fine (hfi f hf).1⟩
  have hbd := body_short (kind := s) hs2 (by omega) hxf
  rw [← hxs] at hfl
  rw [hfl]
  obtain ⟨ec, hec⟩ : ∃ x, x = encF s xs := ⟨_, rfl⟩
  rw [← hec]
  refine Seq.p rfl Ev.move ?_
  refine Seq.p rfl Ev.extract ?_
  refine Seq.p rfl Ev.extract ?_
  refine Seq.p rfl Ev.extract ?_
  refine Seq.p rfl Ev.extract ?_
  refine Seq.p rfl Ev.extract ?_
  refine Seq.p rfl Ev.assign ?_
  refine Seq.p rfl Ev.assign ?_
  refine Seq.p rfl Ev.assign ?_
  refine Seq.p rfl Ev.assign ?_
  refine Seq.p rfl Ev.assign ?_
  refine Seq.nil ?_
  refine JC.seq ?_
  refine JC.rs ?_
  refine Seq.p rfl Ev.move ?_
  refine Seq.p rfl Ev.ne ?_
  refine Seq.nil ?_
  first | refine JC.c (ht := fun c18 => ?_) (hf := fun c18 => ?_) | refine JC.cb (ht := fun c18 => ?_) (hf := fun c18 => ?_)
  · -- then_t18
    exact absurd rfl c18
  · -- else_t18
    refine JC.skip ?_
    refine JC.rs ?_
    refine Seq.p rfl Ev.move ?_
    refine Seq.p rfl Ev.move ?_
    refine Seq.call rfl (fun w' hw => by have h := msgTagged (w := w') (fs := fs) (RAt.up (RAt.box (enc := Fld.enc) (sz := 3) (hs := by omega)) hw) (fun f hf => (hfi f hf).1) (by omega) (hL.upd hw); rw [← hxs] at h; exact h) (F := _) (by exact List.Perm.refl _) ?_
    rintro _ _ ⟨A22, c22, rfl, rfl⟩
    simp only [List.cons_append, List.nil_append]
    refine Seq.call rfl (fun w' hw => by have h := textEncode (w := w') (kind := s) (xs := xs) (RAt.up (RAt.own (enc := Tg.enc) (xs := xs) (hs := by omega)) hw) (by omega) (fun t ht => by have := (hxf t ht).2; omega) hbd (hL.upd hw); rw [← hec] at h; exact h) (F := _) (by exact List.Perm.refl _) ?_
    rintro _ _ ⟨A23, c23, rfl, rfl⟩
    simp only [List.cons_append, List.nil_append]
    refine Seq.p rfl Ev.extract ?_
    refine Seq.p rfl Ev.extract ?_
    refine Seq.p rfl Ev.assign ?_
    refine Seq.p rfl Ev.assign ?_
    refine Seq.nil ?_
    refine JC.ret ?_
    -- return 0
    show retQ _ _ _ _ _ _ _ _
    refine ret2 (H' := [bytesC (.slice A23 ec.2.length c23) ec.2]) (hp := (by repeat (first | exact Part.nil _ | refine Part.at (by repeat (first | exact At.z | apply At.s)) ?_))) (hpost := ?_)
    exact ⟨A23, c23, rfl, rfl⟩
theorem msgLine {w : World} {i : Input} (hw0 : i.Wf) (hL : LaidT w) : Spec Go.Proofs.Tryd.prog 6 #[.agg i.enc.toArray] w [] (LinePost (lineF i)) := by
  by_cases hE : toldE i = 0
  · exact msgLine1 hw0 hE hL
  · exact msgLine0 hE
end Go.Rx
/- The document's Line: plain. -/
namespace Go.Rx
open Go Go.RowKit Go.Lib Go.Proofs.YthpejgmkiomfhaaDoor
set_option linter.unusedVariables false
set_option linter.unusedSimpArgs false
theorem toldE_eq {i : Input} (hw : i.Wf) : toldE i = refE i := by
  have h := congrArg Prod.snd (pack_eq hw)
  unfold packF refPackF at h
  by_cases h1 : toldE i = 0
  · by_cases h2 : refE i = 0
    · rw [h1, h2]
    · rw [if_pos h1, if_neg h2] at h
      exact absurd h.symm h2
  · by_cases h2 : refE i = 0
    · rw [if_neg h1, if_pos h2] at h
      exact absurd h h1
    · rw [if_neg h1, if_neg h2] at h
      exact h
theorem inValF_range {i : Input} (hw : i.Wf) (t : Int) : 0 ≤ (inValF i t).1 ∧ (inValF i t).1 ≤ 18446744073709551615 := by
  unfold inValF
  (repeat' split) <;> first | exact hw.id | exact hw.target | exact hw.qty | exact hw.peak | (dsimp only; omega)
def rfTg (i : Input) (f : RF) : Tg := ⟨f.tag, decS (inValF i f.tag).1.toNat⟩
def letterF (k : Int) : ByteArray := if k = 1 then ⟨#[68]⟩ else if k = 2 then ⟨#[70]⟩ else if k = 3 then ⟨#[71]⟩ else if k = 4 then ⟨#[85, 69]⟩ else ⟨#[]⟩
theorem valsGo_vals {i : Input} : ∀ (l : List RF) (s s' : Input × List Int), valsGo i l s = some s' → s'.2 = s.2 ++ l.map fun f => (inValF i f.tag).1
  | [], s, s', h => by
    simp only [valsGo, Option.some.injEq] at h
    subst h
    simp
  | f :: r, s, s', h => by
    simp only [valsGo] at h
    cases hs : stepF i f s with
    | none => rw [hs] at h; cases h
    | some q =>
      rw [hs] at h
      have h2 := valsGo_vals r q s' h
      unfold stepF at hs
      split at hs
      · cases hs
      · split at hs
        · cases hs
        · simp only [Option.some.injEq] at hs
          subst hs
          rw [h2]
          simp
/-- What is told, told alike. -/
theorem told_same {i : Input} {k : Int} {s : ByteArray} {fs : List Fld} (hF : fieldsF i = some (k, s, fs)) : s = letterF (nameF i) ∧ fs.map tgOf = (refFieldsF (nameF i)).map (rfTg i) := by
  unfold fieldsF at hF
  split at hF
  · rename_i h
    simp only [Option.some.injEq, Prod.mk.injEq] at hF
    obtain ⟨_, rfl, rfl⟩ := hF
    have hn : nameF i = 4 := if_pos h
    rw [hn]
    exact ⟨rfl, rfl⟩
  · rename_i h
    split at hF
    · cases hF
    · rename_i h1
      have h1 : i.kind = 1 := by omega
      split at hF
      · rename_i h2
        simp only [Option.some.injEq, Prod.mk.injEq] at hF
        obtain ⟨_, rfl, rfl⟩ := hF
        have hn : nameF i = 1 := by unfold nameF; rw [if_neg h, if_pos ⟨h1, by omega, by omega⟩, h2]
        rw [hn]
        exact ⟨rfl, rfl⟩
      · split at hF
        · rename_i h2
          simp only [Option.some.injEq, Prod.mk.injEq] at hF
          obtain ⟨_, rfl, rfl⟩ := hF
          have hn : nameF i = 2 := by unfold nameF; rw [if_neg h, if_pos ⟨h1, by omega, by omega⟩, h2]
          rw [hn]
          exact ⟨rfl, rfl⟩
        · split at hF
          · rename_i h2
            simp only [Option.some.injEq, Prod.mk.injEq] at hF
            obtain ⟨_, rfl, rfl⟩ := hF
            have hn : nameF i = 3 := by unfold nameF; rw [if_neg h, if_pos ⟨h1, by omega, by omega⟩, h2]
            rw [hn]
            exact ⟨rfl, rfl⟩
          · cases hF
theorem toldE_some {i : Input} (h : toldE i = 0) : ∃ k s fs, fieldsF i = some (k, s, fs) := by
  unfold toldE at h
  cases hF : fieldsF i with
  | none => rw [hF] at h; cases h
  | some p => obtain ⟨k, s, fs⟩ := p; exact ⟨k, s, fs, rfl⟩
/-- A line as the document tells it. -/
theorem lineF_ref {i : Input} (hw : i.Wf) : lineF i = if refE i = 0 then encF (letterF (nameF i)) ((refFieldsF (nameF i)).map (rfTg i)) else (refE i, []) := by
  by_cases h : toldE i = 0
  · obtain ⟨k, s, fs, hF⟩ := toldE_some h
    obtain ⟨h1, h2⟩ := told_same hF
    rw [lineF_ok h hF, if_pos (by rw [← toldE_eq hw]; exact h), ← h1, ← h2]
  · rw [lineF_err h, if_neg (by rw [← toldE_eq hw]; exact h), toldE_eq hw]
end Go.Rx
/- The document's Line. -/
namespace Go.Rx
open Go Go.RowKit Go.Lib Go.Proofs.YthpejgmkiomfhaaDoor
set_option linter.unusedVariables false
set_option linter.unusedSimpArgs false
def lettersL : List Value := [.string ⟨#[]⟩, .string ⟨#[68]⟩, .string ⟨#[70]⟩, .string ⟨#[71]⟩, .string ⟨#[85, 69]⟩]
theorem letters_at {k : Int} (h : 1 ≤ k ∧ k ≤ 4) : lettersL[k.toNat * 1]? = some (.string (letterF k)) := by
  have : k = 1 ∨ k = 2 ∨ k = 3 ∨ k = 4 := by omega
  rcases this with rfl | rfl | rfl | rfl <;> rfl
theorem letter_size (k : Int) : (letterF k).size ≤ 2 := by
  unfold letterF
  (repeat' split) <;> decide
theorem refLetters {w : World} : Spec Go.Proofs.Tryd.prog 25 #[] w [] (fun u _ => u = .agg lettersL.toArray) := by
  refine Spec.enter (fn := Go.Proofs.Tryd.f25) (n := 2) [] Go.Proofs.Tryd.func25 (by kernel_rfl) rfl Go.Proofs.Tryd.ntmps25 Go.Proofs.Tryd.results25 rfl (Own.nil _) ?_
  refine JC.rs ?_
  refine Seq.alloc (cs := [_, _, _, _, _]) (hz := z.a5_string) (k := ?_); intro b0
  refine Seq.nil ?_
  refine JC.rs ?_
  refine Seq.p rfl (Ev.buildArrN [_, _, _, _, _] ar.a5_string z.a5_string) ?_
  refine Seq.storeN [_, _, _, _, _] sz.a5_string (k := ?_)
  refine Seq.nil ?_
  refine JC.ret ?_
  -- return 0
  show retQ _ _ _ _ _ _ _ _
  refine retB1 ag.a5_string (hp := Part.nil _) (hpost := ?_)
  rfl
theorem row_tags {k : Int} : ∀ f ∈ refFieldsF k, f.tag.toNat < 10000 := by
  intro f hf
  unfold refFieldsF at hf
  (repeat' split at hf) <;> simp only [List.mem_cons, List.not_mem_nil, or_false] at hf <;> (try (rcases hf with rfl | rfl | rfl | rfl | rfl | rfl | rfl)) <;> (try (rcases hf with rfl | rfl | rfl | rfl | rfl)) <;> (try subst hf) <;> first | decide | (show Int.toNat _ < _; decide) | cases hf
set_option maxHeartbeats 2000000 in
set_option maxRecDepth 100000 in
theorem refLine0 {w : World} {i : Input} (hw0 : i.Wf) (hE : ¬ refE i = 0) : Spec Go.Proofs.Tryd.prog 7 #[.agg i.enc.toArray] w [] (LinePost (lineF i)) := by
  have hl := lineF_ref hw0
  rw [if_neg hE] at hl
  rw [hl]
  refine Spec.enter (fn := Go.Proofs.Tryd.f7) (n := 48) [.agg i.enc.toArray] Go.Proofs.Tryd.func7 (by kernel_rfl) rfl Go.Proofs.Tryd.ntmps7 Go.Proofs.Tryd.results7 rfl (Own.nil _) ?_
  refine JC.re (fun w h => h.nilOwn 5 1) ?_
  refine JC.rs ?_
  refine Seq.box (cs := [_, _, _, _, _, _, _, _, _, _, _]) (k := ?_); intro b1
  refine Seq.p rfl Ev.assign ?_
  refine Seq.p rfl Ev.assign ?_
  refine Seq.nil ?_
  refine JC.rs ?_
  refine Seq.p rfl (Ev.ldBA ag.api_Input) ?_
  refine Seq.call rfl (fun w hw => refValues) (F := _) (by exact List.Perm.refl _) ?_
  intro u N hN
  rw [ValuesPost, if_neg hE] at hN
  subst hN
  refine Seq.re (fun w h => h.part ⟨N, List.perm_append_comm⟩) ?_
  refine Seq.p rfl Ev.move ?_
  refine Seq.p rfl Ev.extract ?_
  refine Seq.p rfl Ev.extract ?_
  refine Seq.p rfl Ev.assign ?_
  refine Seq.p rfl Ev.assign ?_
  refine Seq.nil ?_
  refine JC.seq ?_
  refine JC.rs ?_
  refine Seq.p rfl Ev.move ?_
  refine Seq.p rfl Ev.ne ?_
  refine Seq.nil ?_
  first | refine JC.c (ht := fun c15 => ?_) (hf := fun c15 => ?_) | refine JC.cb (ht := fun c15 => ?_) (hf := fun c15 => ?_)
  · -- then_t15
    refine JC.rs ?_
    refine Seq.p rfl Ev.move ?_
    refine Seq.p rfl Ev.assign ?_
    refine Seq.p rfl Ev.assign ?_
    refine Seq.nil ?_
    refine JC.ret ?_
    -- return 0
    show retQ _ _ _ _ _ _ _ _
    refine ret2 (H' := [bytesC (.slice none 0 0) []]) (hp := (by repeat (first | exact Part.nil _ | refine Part.at (by repeat (first | exact At.z | apply At.s)) ?_))) (hpost := ?_)
    exact ⟨none, 0, rfl, rfl⟩
  · -- else_t15
    exact absurd hE c15
set_option maxHeartbeats 2000000 in
set_option maxRecDepth 100000 in
theorem refLine1 {w : World} {i : Input} (hw0 : i.Wf) (hE : refE i = 0) : Spec Go.Proofs.Tryd.prog 7 #[.agg i.enc.toArray] w [] (LinePost (lineF i)) := by
  have hl := lineF_ref hw0
  rw [if_pos hE] at hl
  rw [hl]
  have hsm := refFieldsF_small (nameF i)
  have htg := row_tags (k := nameF i)
  have hlz := letter_size (nameF i)
  obtain ⟨l, hl0⟩ : ∃ l, l = refFieldsF (nameF i) := ⟨_, rfl⟩
  obtain ⟨kd, hkd⟩ : ∃ s, s = letterF (nameF i) := ⟨_, rfl⟩
  rw [← hl0, ← hkd]
  rw [← hl0] at hsm htg
  rw [← hkd] at hlz
  have hbd : (bodyL kd (l.map (rfTg i))).length ≤ 1099511627776 := body_short hlz (by rw [List.length_map]; omega) (fun t ht => by
    obtain ⟨f, hf, rfl⟩ := List.mem_map.1 ht
    have hr := inValF_range hw0 f.tag
    exact ⟨htg f hf, (decS_facts (n := (inValF i f.tag).1.toNat) (by omega)).2.1⟩)
  have htz : ∀ t ∈ l.map (rfTg i), t.value.size ≤ 70368744177664 := fun t ht => by
    obtain ⟨f, hf, rfl⟩ := List.mem_map.1 ht
    have hr := inValF_range hw0 f.tag
    have := (decS_facts (n := (inValF i f.tag).1.toNat) (by omega)).2.1
    show (decS _).size ≤ _
    omega
  obtain ⟨ec, hec⟩ : ∃ x, x = encF kd (l.map (rfTg i)) := ⟨_, rfl⟩
  rw [← hec]
  refine Spec.enter (fn := Go.Proofs.Tryd.f7) (n := 48) [.agg i.enc.toArray] Go.Proofs.Tryd.func7 (by kernel_rfl) rfl Go.Proofs.Tryd.ntmps7 Go.Proofs.Tryd.results7 rfl (Own.nil _) ?_
  refine JC.rs ?_
  refine Seq.box (cs := [_, _, _, _, _, _, _, _, _, _, _]) (k := ?_); intro b1
  refine Seq.p rfl Ev.assign ?_
  refine Seq.p rfl Ev.assign ?_
  refine Seq.nil ?_
  refine JC.rs ?_
  refine Seq.p rfl (Ev.ldBA ag.api_Input) ?_
  refine Seq.call rfl (fun w hw => refValues) (F := _) (by exact List.Perm.refl _) ?_
  intro u N hN
  rw [ValuesPost, if_pos hE] at hN
  obtain ⟨s, A, cc, hn0, hv, rfl, rfl⟩ := hN
  have hls : s.2 = l.map fun f => (inValF i f.tag).1 := by have := valsGo_vals _ _ _ hv; rw [← hl0] at this; simpa using this
  obtain ⟨vs, hvs⟩ : ∃ x, x = s.2 := ⟨_, rfl⟩
  rw [← hvs] at hls
  rw [← hvs]
  have hvl : vs.length = l.length := by rw [hls, List.length_map]
  refine Seq.p rfl Ev.move ?_
  refine Seq.p rfl Ev.extract ?_
  refine Seq.p rfl Ev.extract ?_
  refine Seq.p rfl Ev.assign ?_
  refine Seq.p rfl Ev.assign ?_
  refine Seq.nil ?_
  refine JC.seq ?_
  refine JC.rs ?_
  refine Seq.p rfl Ev.move ?_
  refine Seq.p rfl Ev.ne ?_
  refine Seq.nil ?_
  first | refine JC.c (ht := fun c15 => ?_) (hf := fun c15 => ?_) | refine JC.cb (ht := fun c15 => ?_) (hf := fun c15 => ?_)
  · -- then_t15
    exact absurd rfl c15
  · -- else_t15
    refine JC.skip ?_
    refine JC.rs ?_
    refine Seq.p rfl (Ev.ldBA ag.api_Input) ?_
    refine Seq.callP rfl (fun w hw => refName) ?_
    refine Seq.call rfl (fun w hw => hl0 ▸ refFields (nameF_range i hn0)) (F := _) (by exact List.Perm.refl _) ?_
    rintro _ _ ⟨bl, rfl, rfl⟩
    refine Seq.p rfl Ev.assign ?_
    refine Seq.nil ?_
    refine JC.rs ?_
    refine Seq.p rfl Ev.assign ?_
    refine Seq.re (fun w h => Upd.nilOwn h 68 2) ?_
    refine Seq.nil ?_
    refine JC.seq ?_
    refine JC.rs ?_
    refine Seq.p rfl Ev.assign ?_
    refine Seq.nil ?_
    refine JC.blk ?_
    refine JC.loop (α := Nat) (I := fun k e1 H1 => ∃ A2 c2 xs, Has [7, 8, 20, 21, 22, 23, 24, 25, 26, 27, 28, 29, 30, 31, 32, 33, 34, 35, 36, 37, 38, 39] [(8, .int .i64 (k : Int)), (7, .slice A2 xs.length c2)] _ e1 ∧ H1 = [tagsC (.slice A2 xs.length c2) xs, .box bl 65 (l.flatMap RF.enc), .own 22 1 (.slice A vs.length cc) vs.length (vs.flatMap uenc), .box b1 27 i.enc] ∧ k ≤ l.length ∧ xs = (l.take k).map (rfTg i)) (μ := fun k => l.length - k) 0 ⟨none, 0, [], Has.mk Off.refl (allLook_cons (by repeat (first | exact Look.here | apply Look.there (hne := rfl) | exact Look.const | apply Look.mix rfl | exact Look.arg0 | apply Look.args | exact Look.func)) (allLook_cons (by repeat (first | exact Look.here | apply Look.there (hne := rfl) | exact Look.const | apply Look.mix rfl | exact Look.arg0 | apply Look.args | exact Look.func)) allLook_nil)), rfl, by omega, rfl⟩ ?_
    rintro k _ _ ⟨A2, c2, xs, ⟨ui, rfl⟩, rfl, hk, hx⟩; dsimp only [setL]
    refine JC.seq ?_
    refine JC.rs ?_
    refine Seq.p rfl Ev.move ?_
    refine Seq.p rfl Ev.move ?_
    refine Seq.p rfl (Ev.lenSl sl.sl_bourseref04_field (hr := RAt.box (enc := RF.enc) (sz := 4) (hs := by omega))) ?_
    refine Seq.p rfl Ev.lt ?_
    refine Seq.nil ?_
    first | refine JC.c (ht := fun c23 => ?_) (hf := fun c23 => ?_) | refine JC.cb (ht := fun c23 => ?_) (hf := fun c23 => ?_)
    · -- then_t23
      have hk2 : k < l.length := by omega
      have hvk : vs[k]! = (inValF i (l[k]!).tag).1 := by rw [hls, getElem!_pos _ k (by rw [List.length_map]; exact hk2), List.getElem_map, getElem!_pos l k hk2]
      have hrg := inValF_range hw0 (l[k]!).tag
      rw [← hvk] at hrg
      have hxl : xs.length = k := by rw [hx, List.length_map, List.length_take]; omega
      have hxs : xs ++ [rfTg i l[k]!] = (l.take (k + 1)).map (rfTg i) := by rw [hx, List.take_succ_eq_append_getElem hk2, List.map_append, getElem!_pos l k hk2]; rfl
      have hdec : ∀ w' : World, Spec Go.Proofs.Tryd.prog 23 #[.int .u64 (vs[k]!)] w' [] (fun u _ => u = .string (decS (vs[k]!).toNat)) := fun w' => by
        have h := refDecimal (w := w') (n := (vs[k]!).toNat) (by omega)
        rw [show (((vs[k]!).toNat : Nat) : Int) = vs[k]! by omega] at h
        exact h
      refine JC.skip ?_
      refine JC.seq ?_
      refine JC.blk ?_
      refine JC.anyE 0 mixed ?_
      refine Any.p 0 rfl (by kernel_rfl) (by kernel_rfl) (by kernel_rfl) rfl Ev.move ?_
      refine Any.p 1 rfl (by kernel_rfl) (by kernel_rfl) (by kernel_rfl) rfl Ev.move ?_
      refine Any.p 2 rfl (by kernel_rfl) (by kernel_rfl) (by kernel_rfl) rfl Ev.move ?_
      refine Any.p 3 rfl (by kernel_rfl) (by kernel_rfl) (by kernel_rfl) rfl (Ev.iaN sl.sl_bourseref04_field (hr := RAt.box (enc := RF.enc) (sz := 4) (hs := by omega))) ?_
      refine Any.p 4 rfl (by kernel_rfl) (by kernel_rfl) (by kernel_rfl) rfl (Ev.fa fd.bourseref04_field_0) ?_
      refine Any.p 5 rfl (by kernel_rfl) (by kernel_rfl) (by kernel_rfl) rfl (Ev.ldE sc.int (hr := RAt.box (enc := RF.enc) (sz := 4) (hs := by omega))) ?_
      refine Any.p 6 rfl (by kernel_rfl) (by kernel_rfl) (by kernel_rfl) rfl Ev.move ?_
      refine Any.p 7 rfl (by kernel_rfl) (by kernel_rfl) (by kernel_rfl) rfl Ev.move ?_
      refine Any.p 8 rfl (by kernel_rfl) (by kernel_rfl) (by kernel_rfl) rfl (Ev.iaN sl.sl_uint64 (hr := RAt.own (enc := uenc) (xs := vs) (sz := 1) (hs := by omega))) ?_
      refine Any.p 9 rfl (by kernel_rfl) (by kernel_rfl) (by kernel_rfl) rfl (Ev.ldE1 sc.uint64 (hr := RAt.own (enc := uenc) (xs := vs) (sz := 1) (hs := by omega))) ?_
      refine Any.call 10 rfl (by kernel_rfl) (by kernel_rfl) (by kernel_rfl) rfl (fun w hw => hdec _) ?_
      refine Any.p 11 rfl (by kernel_rfl) (by kernel_rfl) (by kernel_rfl) rfl (Ev.buildN [_, _] pl.api_Tag z.api_Tag) ?_
      refine Any.one 12 rfl (by kernel_rfl) ?_
      refine Seq.buildSlN [_, _] (hsl := sl.sl_api_Tag) (hz := z.api_Tag) (k := ?_); intro b38
      refine Seq.nil ⟨(by repeat (first | exact Part.refl _ | exact Part.nil _ | apply Part.here | apply Part.skip)), ?_⟩
      refine Any.one 13 rfl (by kernel_rfl) ?_
      refine Seq.append (hsl := sl.sl_api_Tag) (he := el.api_Tag) (hsrc := (fun w' hw => Src.box (hl := by rfl) (hc := fun q u hu => hu) sl.sl_api_Tag At.z hw)) (k := ?_); intro A39 c39
      refine Seq.nil ⟨(by repeat (first | exact Part.refl _ | exact Part.nil _ | apply Part.here | apply Part.skip)), ?_⟩
      refine Any.p 14 rfl (by kernel_rfl) (by kernel_rfl) (by kernel_rfl) rfl Ev.assign ?_
      refine Any.done (by kernel_rfl) ?_
      refine JC.reg ?_
      refine Seq.p rfl Ev.move ?_
      refine Seq.p rfl (by first | exact Ev.inc | exact Ev.add) ?_
      refine Seq.p rfl Ev.assign ?_
      refine Seq.nil ?_
      have hst : tagsC (.slice A39 (xs ++ [rfTg i l[k]!]).length c39) (xs ++ [rfTg i l[k]!]) = .own 68 2 (.slice A39 (xs.length + 1) c39) (xs.length + 1) (xs.flatMap Tg.enc ++ [.int .i64 (l[k]!).tag, .string (decS (vs[k]!).toNat)]) := by rw [hvk]; simp [tagsC, Tg.enc, rfTg, List.flatMap_append]
      refine ⟨k + 1, [_, _, _, _], Part.skip (Part.refl _), ⟨A39, c39, xs ++ [rfTg i l[k]!], Has.mk (by repeat (first | refine Off.upd ?_ rfl | exact Off.mix | refine Off.mix2 ?_ rfl | exact Off.refl)) (allLook_cons (by repeat (first | exact Look.here | apply Look.there (hne := rfl) | exact Look.const | apply Look.mix rfl | exact Look.arg0 | apply Look.args | exact Look.func)) (allLook_cons (by rw [List.length_append]; exact (by repeat (first | exact Look.here | apply Look.there (hne := rfl) | exact Look.const | apply Look.mix rfl | exact Look.arg0 | apply Look.args | exact Look.func))) allLook_nil)), by rw [hst], by omega, hxs⟩, by omega⟩
    · -- else_t23
      obtain rfl : k = l.length := by omega
      rw [List.take_length] at hx
      have hnr := nameF_range i hn0
      refine JC.exit ?_ -- 0
      refine JC.as mixed ?_
      refine Any.call 0 rfl (by kernel_rfl) (by kernel_rfl) (by kernel_rfl) rfl (fun w hw => refLetters) ?_
      refine Any.p 1 rfl (by kernel_rfl) (by kernel_rfl) (by kernel_rfl) rfl (Ev.ldBA ag.api_Input) ?_
      refine Any.call 2 rfl (by kernel_rfl) (by kernel_rfl) (by kernel_rfl) rfl (fun w hw => refName) ?_
      refine Any.p 3 rfl (by kernel_rfl) (by kernel_rfl) (by kernel_rfl) rfl (Ev.indexS (v := .string kd) ar.a5_string sc.string (hv := by rw [hkd]; exact letters_at hnr)) ?_
      refine Any.p 4 rfl (by kernel_rfl) (by kernel_rfl) (by kernel_rfl) rfl Ev.move ?_
      refine Any.one 5 rfl (by kernel_rfl) ?_
      refine Seq.call rfl (fun w' hw => by have h := refEncode (w := w') (kind := kd) (xs := xs) (RAt.up (RAt.own (enc := Tg.enc) (xs := xs) (hs := by rw [hx, List.length_map]; omega)) hw) (by omega) (by rw [hx]; exact htz) (by rw [hx]; exact hbd); rw [hx, ← hec] at h; rw [hx]; exact h) (F := _) (by exact List.Perm.refl _) ?_
      rintro _ _ ⟨A45, c45, rfl, rfl⟩
      simp only [List.cons_append, List.nil_append]
      refine Seq.nil ⟨(by repeat (first | exact Part.refl _ | exact Part.nil _ | apply Part.here | apply Part.skip)), ?_⟩
      refine Any.p 6 rfl (by kernel_rfl) (by kernel_rfl) (by kernel_rfl) rfl Ev.extract ?_
      refine Any.p 7 rfl (by kernel_rfl) (by kernel_rfl) (by kernel_rfl) rfl Ev.extract ?_
      refine Any.p 8 rfl (by kernel_rfl) (by kernel_rfl) (by kernel_rfl) rfl Ev.assign ?_
      refine Any.p 9 rfl (by kernel_rfl) (by kernel_rfl) (by kernel_rfl) rfl Ev.assign ?_
      refine Any.done (by kernel_rfl) ?_
      refine JC.ret ?_
      -- return 0
      show retQ _ _ _ _ _ _ _ _
      refine ret2 (H' := [bytesC (.slice A45 ec.2.length c45) ec.2]) (hp := (by repeat (first | exact Part.nil _ | refine Part.at (by repeat (first | exact At.z | apply At.s)) ?_))) (hpost := ?_)
      exact ⟨A45, c45, rfl, rfl⟩
theorem refLine {w : World} {i : Input} (hw0 : i.Wf) : Spec Go.Proofs.Tryd.prog 7 #[.agg i.enc.toArray] w [] (LinePost (lineF i)) := by
  by_cases hE : refE i = 0
  · exact refLine1 hw0 hE
  · exact refLine0 hw0 hE
end Go.Rx
