/- Parts of the proof. -/
import Derived.Test.YtonoamdonmbkpaaPart2
import Derived.Lib.Builder
import Derived.Lib.UnsafeStr
import Derived.Test.YtonoamdonmbkpaaPart1
set_option linter.unusedVariables false
set_option linter.unusedSimpArgs false
/- strings.Builder, walked. -/
namespace Go.Rx
open Go Go.RowKit
set_option linter.unusedVariables false
set_option linter.unusedSimpArgs false
theorem run_loadBytesI {P : Program} (w : World) : ∀ (l : List Int) (a : Addr) (acc : ByteArray), (∀ j u, l[j]? = some u → w.cell? (a.add j) = some (.int .u8 u)) →
    (loadBytes a acc l.length).run P w = .ok (l.foldl (fun r n => r.push (UInt8.ofNat n.toNat)) acc) w
  | [], a, acc, _ => by simp [loadBytes]
  | x :: l, a, acc, h => by
    have h0 : w.cell? a = some (.int .u8 x) := by
      have := h 0 x rfl
      simpa [Addr.add] using this
    have ih := run_loadBytesI (P := P) w l (a.add 1) (acc.push (UInt8.ofNat x.toNat)) (fun j y hy => by
      have := h (j + 1) y (by simpa using hy)
      have e : (a.add 1).add j = a.add (j + 1) := by
        unfold Addr.add
        by_cases hj : j = 0
        · subst hj; simp
        · simp [hj]; omega
      rw [e]; exact this)
    simp only [List.length_cons, loadBytes, Sem.run_bind, run_load, h0, Result.andThen, List.foldl_cons]
    exact ih
theorem liesAt_bytesR {P : Program} {e : TypeId} (hc : P.cellsOf e = 1) (count off n : Nat) (hn : off + n ≤ count) : liesAt P P.depth e count off e n = true := by
  have hd : P.depth = (2 * (P.types.size + Made.depth) + 1) + 1 := rfl
  rw [hd]
  simp only [liesAt, Bool.or_eq_true]
  left
  rw [hd]
  simp [rowAt, hc, hn, sameLayout, Nat.mod_one]
theorem Upd.frozen {w0 w : World} {Cs H : List Chunk} {i : Nat} {e : TypeId} {sz g off cap n m : Nat} {xs : List Value} (h : Upd w0 w Cs H) (hi : At H i (.own e sz (.slice (some ⟨g, off, none⟩) n cap) n xs)) : Upd w0 (w.freeze ⟨g, off, none⟩ m) Cs (H.eraseIdx i) := by
  have hw : Upd w (w.freeze ⟨g, off, none⟩ m) [.own e sz (.slice (some ⟨g, off, none⟩) n cap) n xs] [] := by
    unfold World.freeze
    split
    · exact ⟨rfl, rfl, rfl, Nat.le_refl _, fun _ _ _ => rfl, Own.nil _, by simp⟩
    · refine ⟨rfl, rfl, rfl, by simp, fun k hk hne => ?_, Own.nil _, by simp⟩
      simp only [Array.getElem?_modify]
      rw [if_neg]
      intro hgk
      refine hne _ (List.mem_singleton.2 rfl) ?_
      show Value.ownBlock _ = _
      simp [Value.ownBlock, hgk]
  have hperm : ([Chunk.own e sz (.slice (some ⟨g, off, none⟩) n cap) n xs] ++ H.eraseIdx i).Perm H := At.perm hi
  have := Upd.step (h.perm hperm.symm) hw
  simpa using this
section
variable {P : Program} {n : Nat} {ops : Array Oper} {w0 : World} {Cs H : List Chunk} {e : Env} {K : Env → List Chunk → Prop} {rest : List Oper} {t : Nat} {ty : TypeId} {pos : String} {af : Array Edge} {x y : Operand}
theorem Ev.toUnsafe {src dst tp eb : TypeId} {mz : Nat} {b i : Nat} {cs : List Value} (hs : P.underlying src = some (.pointer tp)) (hd : P.underlying dst = some .unsafePointer) (hz : (P.info? tp).map (·.size) = some mz) (hm : mz ≠ 0 := by decide)
    (hx : Look e x (.pointer (some ⟨b, 0, none⟩)) := by repeat (first | exact Look.here | apply Look.there (hne := rfl) | exact Look.const | apply Look.mix rfl | exact Look.arg0 | apply Look.args | exact Look.func)) (hH : At H i (.box b eb cs) := by repeat (first | exact At.z | apply At.s)) (hc : Nat.blt 0 cs.length = true := by rfl) : Ev P w0 Cs H e (.convert src dst x) ty (.pointer (some ⟨b, 0, none⟩)) := by
  intro w hw d pos af g
  replace hx := hx.eq
  have hb : w.heap[b]? = some (.cells cs.toArray eb (0, 0)) := hH.ok hw
  obtain ⟨j, ht, hj⟩ := Option.map_eq_some_iff.1 hz
  have := Go.Lib.run_to_unsafe (P := P) w ⟨b, 0, none⟩ hs hd ht (by rw [hj]; exact hm) (e := eb) (cells := cs.length) (by simp [World.shape?, hb]) (by simpa using hc)
  simp [execOp, hx, this]
theorem Ev.fromUnsafe {src dst tp eb : TypeId} {mz : Nat} {b i : Nat} {cs : List Value} (hs : P.underlying src = some .unsafePointer) (hd : P.underlying dst = some (.pointer tp)) (hz : (P.info? tp).map (·.size) = some mz) (hx : Look e x (.pointer (some ⟨b, 0, none⟩)) := by repeat (first | exact Look.here | apply Look.there (hne := rfl) | exact Look.const | apply Look.mix rfl | exact Look.arg0 | apply Look.args | exact Look.func)) (hH : At H i (.box b eb cs) := by repeat (first | exact At.z | apply At.s))
    (hl : liesAt P P.depth eb (cs.length / P.cellsOf eb) 0 tp 1 = true := by kernel_rfl) : Ev P w0 Cs H e (.convert src dst x) ty (.pointer (some ⟨b, 0, none⟩)) := by
  intro w hw d pos af g
  replace hx := hx.eq
  have hb : w.heap[b]? = some (.cells cs.toArray eb (0, 0)) := hH.ok hw
  obtain ⟨j, ht, _⟩ := Option.map_eq_some_iff.1 hz
  have := Go.Lib.run_from_unsafe (P := P) w ⟨b, 0, none⟩ hs hd ht (e := eb) (cells := cs.length) (by simp [World.shape?, hb]) hl
  simp [execOp, hx, this]
theorem Ev.noEscape {f : FuncId} {fn : Func} {ats : Array TypeId} {v : Value} (hf : P.funcs[f]? = some fn) (hn : (fn.name == "runtime.NumGoroutine") = false) (hb : fn.body.isNone = true) (hfn : Extern.findNext fn = none) (he : Extern.find fn = some Extern.AbiNoEscape.same)
    (hx : Look e x v := by repeat (first | exact Look.here | apply Look.there (hne := rfl) | exact Look.const | apply Look.mix rfl | exact Look.arg0 | apply Look.args | exact Look.func)) : Ev P w0 Cs H e (.call ⟨.value (.func f), #[x], ats⟩) ty v := by
  intro w hw d pos af g2
  have hr2 := run_callFunc_extern hf hn hb hfn he #[v] w
  rw [Go.Lib.run_noEscape] at hr2
  have hfe : ev e (.func f) = .func (.func f) #[] #[] := rfl
  simp [execOp, resolve, Deferred.ofValue, invoke, hx.eq, hfe, hr2, Result.andThen]
theorem Ev.neSameP {tp te ty' : TypeId} {mz : Nat} {a : Addr} (hp : P.underlying tp = some (.pointer te)) (hz : (P.info? te).map (·.size) = some mz) (hx : Look e x (.pointer (some a)) := by repeat (first | exact Look.here | apply Look.there (hne := rfl) | exact Look.const | apply Look.mix rfl | exact Look.arg0 | apply Look.args | exact Look.func)) (hy : Look e y (.pointer (some a)) := by repeat (first | exact Look.here | apply Look.there (hne := rfl) | exact Look.const | apply Look.mix rfl | exact Look.arg0 | apply Look.args | exact Look.func)) :
    Ev P w0 Cs H e (.binOp .neq tp x y ty') ty (.bool false) := by
  intro w _ d pos af g
  replace hx := hx.eq
  replace hy := hy.eq
  obtain ⟨j, hte, _⟩ := Option.map_eq_some_iff.1 hz
  have h1 := Go.Lib.run_neq_ptr_same (P := P) w a hp hte
  have hg : (eqGuard .neq tp x y (.pointer (some a)) (.pointer (some a))).run P w = .ok () w := by unfold eqGuard; simp [*]
  simp [execOp, hx, hy, hg, h1]
theorem Ev.sliceData {ts : Array TypeId} {A : Addr} {m c : Nat} (hx : Look e x (.slice (some A) m c) := by repeat (first | exact Look.here | apply Look.there (hne := rfl) | exact Look.const | apply Look.mix rfl | exact Look.arg0 | apply Look.args | exact Look.func)) (hc : c ≠ 0) : Ev P w0 Cs H e (.call ⟨.builtin .unsafeSliceData, #[x], ts⟩) ty (.pointer (some A)) := by
  intro w _ d pos af g
  replace hx := hx.eq
  simp [execOp, resolve, invoke, builtin, hx, Go.Lib.run_unsafeSliceData_row (P := P) w ts ty A m c hc]
theorem Seq.unsafeStr {pt it el : TypeId} {i g off m cap : Nat} {l : List Int} (ht : Nat.blt t n = true := by rfl) (hp : P.underlying pt = some (.pointer el)) (hc : P.cellsOf el = 1) (h0 : l ≠ []) (hm : m = l.length)
    (hx : Look e x (.pointer (some ⟨g, off, none⟩)) := by repeat (first | exact Look.here | apply Look.there (hne := rfl) | exact Look.const | apply Look.mix rfl | exact Look.arg0 | apply Look.args | exact Look.func)) (hy : Look e y (.int .i64 (m : Int)) := by repeat (first | exact Look.here | apply Look.there (hne := rfl) | exact Look.const | apply Look.mix rfl | exact Look.arg0 | apply Look.args | exact Look.func)) (hH : At H i (.own el 1 (.slice (some ⟨g, off, none⟩) m cap) m (l.flatMap byteEnc)) := by repeat (first | exact At.z | apply At.s))
    (k : Seq P n ops w0 Cs rest (H.eraseIdx i) (upd e t (.string (strOf l))) K) :
    Seq P n ops w0 Cs (⟨some t, .call ⟨.builtin .unsafeString, #[x, y], #[pt, it]⟩, ty, pos, af, none⟩ :: rest) H e K := by
  refine Seq.f ht (R := fun v H' => v = .string (strOf l) ∧ H' = H.eraseIdx i) ?_ ?_
  · intro w hw d pos af gg
    replace hx := hx.eq
    replace hy := hy.eq
    have hown : OwnR w el 1 (.slice (some ⟨g, off, none⟩) m cap) m (l.flatMap byteEnc) := hH.ok hw
    have hfm : ∀ l : List Int, l.flatMap byteEnc = l.map (Value.int .u8) := by
      intro l
      induction l with
      | nil => rfl
      | cons a l ih => rw [List.flatMap_cons, ih]; rfl
    rw [hfm] at hown
    subst hm
    have hl : l.length ≠ 0 := by simpa using h0
    have hlb := run_loadBytesI (P := P) w l ⟨g, off, none⟩ ByteArray.empty (by
      intro j u hu
      have h2 : (⟨g, off, none⟩ : Addr).add j = ⟨g, off + j, none⟩ := by unfold Addr.add; split <;> simp_all
      rw [h2]
      exact hown.cells j _ (by rw [List.getElem?_map, hu]; rfl))
    obtain ⟨cells, hsh, hfit, hmax63⟩ : ∃ cells, w.shape? g = some (el, cells) ∧ off + l.length ≤ cells ∧ l.length ≤ maxLen := by
      rcases hown.2 with ⟨h1, _⟩ | ⟨g', off', cap', cur, fr, he, hg, hnc, hcm, hcs, _⟩
      · cases h1
      · cases he
        refine ⟨cur.size, by simp [World.shape?, hg], ?_, Nat.le_trans hnc hcm⟩
        omega
    have h63' : ¬ (9223372036854775807 : Int) < (l.length : Int) := by simp only [maxLen] at hmax63; omega
    have hlies := liesAt_bytesR (P := P) hc (cells / P.cellsOf el) off l.length (by rw [hc]; simpa using hfit)
    have hdef : Builtin.unsafeString_ #[pt, it] ty #[.pointer (some ⟨g, off, none⟩), .int .i64 l.length] =
        (do
          let n ← asInt (.int .i64 l.length)
          if n < 0 then runtimePanic (.error "unsafe.String: len out of range")
          if n > IntKind.i64.max then unsupported (.unsafePointer "String: a length above the largest int")
          if n = 0 then pure (.string .empty)
          else if ← variablesAt ⟨g, off, none⟩ (← elemOf pt) n.toNat then do
            let s ← loadBytes ⟨g, off, none⟩ .empty n.toNat
            freeze ⟨g, off, none⟩ n.toNat
            pure (.string s)
          else unsupported (.unsafePointer "String: not so many bytes at ptr")) := rfl
    have hmax : IntKind.i64.max = 9223372036854775807 := rfl
    have hneg : ¬ (l.length : Int) < 0 := by omega
    have hrun : (Builtin.unsafeString_ #[pt, it] ty #[.pointer (some ⟨g, off, none⟩), .int .i64 l.length]).run P w = .ok (.string (strOf l)) (w.freeze ⟨g, off, none⟩ l.length) := by
      rw [hdef]
      simp [asInt, asIntOf, hmax, h63', hneg, hl, variablesAt, hsh, elemOf, run_underlying hp, hlies, hlb, strOf]
    refine ⟨_, _, _, .inl ?_, Upd.frozen (m := l.length) hw hH, rfl, rfl⟩
    simp [execOp, resolve, invoke, builtin, hx, hy, hrun]
  · rintro v H' ⟨rfl, rfl⟩
    exact k
end
abbrev bytesL (v : Value) (l : List Int) : Chunk := .own 5 1 v l.length (l.flatMap byteEnc)
set_option maxHeartbeats 1000000 in
set_option maxRecDepth 100000 in
theorem copyCheckNew {w : World} {b : Nat} {v : Value} (hO : Own w [.box b 90 [.pointer none, v]]) : Spec Go.Proofs.Try.prog 49 #[.pointer (some ⟨b, 0, none⟩)] w [.box b 90 [.pointer none, v]] (fun _ H' => H' = [.box b 90 [.pointer (some ⟨b, 0, none⟩), v]]) := by
  refine Spec.enter (fn := Go.Proofs.Try.f49) (n := 20) [.pointer (some ⟨b, 0, none⟩)] Go.Proofs.Try.func49 (by kernel_rfl) rfl Go.Proofs.Try.ntmps49 Go.Proofs.Try.results49 rfl hO ?_
  refine JC.rs ?_
  refine Seq.p rfl Ev.move ?_
  refine Seq.p rfl Ev.nilP ?_
  refine Seq.p rfl (Ev.fa fd.strings_Builder_0) ?_
  refine Seq.p rfl (Ev.ldB sc.p_strings_Builder) ?_
  refine Seq.p rfl (Ev.eqNilP und.p_strings_Builder) ?_
  refine Seq.nil ?_
  first | refine JC.c (ht := fun c6 => ?_) (hf := fun c6 => ?_) | refine JC.cb (ht := fun c6 => ?_) (hf := fun c6 => ?_)
  · -- then_t6
    refine JC.reg ?_
    refine Seq.p rfl Ev.move ?_
    refine Seq.p rfl Ev.move ?_
    refine Seq.p rfl (Ev.toUnsafe (hs := und.p_strings_Builder) (hd := Go.Proofs.Try.underlying110) (mz := 2) (hz := by kernel_rfl)) ?_
    refine Seq.p rfl (Ev.noEscape Go.Proofs.Try.func58 rfl rfl rfl rfl) ?_
    refine Seq.p rfl (Ev.fromUnsafe (hs := Go.Proofs.Try.underlying110) (hd := und.p_strings_Builder) (mz := 2) (hz := by kernel_rfl)) ?_
    refine Seq.p rfl Ev.nilP ?_
    refine Seq.p rfl (Ev.fa fd.strings_Builder_0) ?_
    refine Seq.storeN [_, _] sz.p_strings_Builder (k := ?_)
    refine Seq.nil ?_
    first | show retQ _ _ _ _ _ .normal _ _ | (simp only [thenQ, blockQ, ↓reduceIte]; show retQ _ _ _ _ _ .normal _ _)
    exact ⟨[], [.box b 90 [.pointer (some ⟨b, 0, none⟩), v]], RVs.nil, Part.refl _, rfl⟩
    skip
  · -- else_t6
    cases c6
set_option maxHeartbeats 1000000 in
set_option maxRecDepth 100000 in
theorem copyCheckOld {w : World} {b : Nat} {v : Value} (hO : Own w [.box b 90 [.pointer (some ⟨b, 0, none⟩), v]]) : Spec Go.Proofs.Try.prog 49 #[.pointer (some ⟨b, 0, none⟩)] w [.box b 90 [.pointer (some ⟨b, 0, none⟩), v]] (fun _ H' => H' = [.box b 90 [.pointer (some ⟨b, 0, none⟩), v]]) := by
  refine Spec.enter (fn := Go.Proofs.Try.f49) (n := 20) [.pointer (some ⟨b, 0, none⟩)] Go.Proofs.Try.func49 (by kernel_rfl) rfl Go.Proofs.Try.ntmps49 Go.Proofs.Try.results49 rfl hO ?_
  refine JC.rs ?_
  refine Seq.p rfl Ev.move ?_
  refine Seq.p rfl Ev.nilP ?_
  refine Seq.p rfl (Ev.fa fd.strings_Builder_0) ?_
  refine Seq.p rfl (Ev.ldB sc.p_strings_Builder) ?_
  refine Seq.p rfl (Ev.eqNilP und.p_strings_Builder) ?_
  refine Seq.nil ?_
  first | refine JC.c (ht := fun c6 => ?_) (hf := fun c6 => ?_) | refine JC.cb (ht := fun c6 => ?_) (hf := fun c6 => ?_)
  · -- then_t6
    cases c6
  · -- else_t6
    refine JC.rs ?_
    refine Seq.p rfl Ev.move ?_
    refine Seq.p rfl Ev.nilP ?_
    refine Seq.p rfl (Ev.fa fd.strings_Builder_0) ?_
    refine Seq.p rfl (Ev.ldB sc.p_strings_Builder) ?_
    refine Seq.p rfl Ev.move ?_
    refine Seq.p rfl (Ev.neSameP (a := ⟨b, 0, none⟩) (hp := und.p_strings_Builder) (mz := 2) (hz := by kernel_rfl)) ?_
    refine Seq.nil ?_
    first | refine JC.c (ht := fun c19 => ?_) (hf := fun c19 => ?_) | refine JC.cb (ht := fun c19 => ?_) (hf := fun c19 => ?_)
    · -- then_t19
      cases c19
    · -- else_t19
      refine JC.skip ?_
      first | show retQ _ _ _ _ _ .normal _ _ | (simp only [thenQ, blockQ, ↓reduceIte]; show retQ _ _ _ _ _ .normal _ _)
      exact ⟨[], [.box b 90 [.pointer (some ⟨b, 0, none⟩), v]], RVs.nil, Part.refl _, rfl⟩
      skip
theorem copyCheck {w : World} {b : Nat} {p : Option Addr} {v : Value} (hp : p = none ∨ p = some ⟨b, 0, none⟩) (hO : Own w [.box b 90 [.pointer p, v]]) : Spec Go.Proofs.Try.prog 49 #[.pointer (some ⟨b, 0, none⟩)] w [.box b 90 [.pointer p, v]] (fun _ H' => H' = [.box b 90 [.pointer (some ⟨b, 0, none⟩), v]]) := by
  rcases hp with rfl | rfl
  · exact copyCheckNew hO
  · exact copyCheckOld hO
def builderL (b : Nat) (p : Option Addr) (v : Value) (l : List Int) : List Chunk := [.box b 90 [.pointer p, v], bytesL v l]
set_option maxHeartbeats 1000000 in
set_option maxRecDepth 100000 in
theorem builderByte {w : World} {b : Nat} {p A : Option Addr} {c0 : Nat} {l : List Int} {c : Int} (hp : p = none ∨ p = some ⟨b, 0, none⟩) (hl : l.length + 1 ≤ 140737488355328) (hO : Own w [.box b 90 [.pointer p, .slice A l.length c0], bytesL (.slice A l.length c0) l]) :
    Spec Go.Proofs.Try.prog 38 #[.pointer (some ⟨b, 0, none⟩), .int .u8 c] w [.box b 90 [.pointer p, .slice A l.length c0], bytesL (.slice A l.length c0) l]
      (fun u H' => ∃ A' c', u = .nilIface ∧ H' = [.box b 90 [.pointer (some ⟨b, 0, none⟩), .slice A' (l ++ [c]).length c'], bytesL (.slice A' (l ++ [c]).length c') (l ++ [c])]) := by
  refine Spec.enter (fn := Go.Proofs.Try.f38) (n := 17) [.pointer (some ⟨b, 0, none⟩), .int .u8 c] Go.Proofs.Try.func38 (by kernel_rfl) rfl Go.Proofs.Try.ntmps38 Go.Proofs.Try.results38 rfl hO ?_
  refine JC.rs ?_
  refine Seq.p rfl Ev.assign ?_
  refine Seq.nil ?_
  refine JC.rs ?_
  refine Seq.p rfl Ev.move ?_
  refine Seq.call rfl (fun w' hw => copyCheck hp (hw.part (Part.here (Part.nil _))).own) (Gs := [_]) (F := [bytesL (.slice A l.length c0) l]) (by exact List.Perm.refl _) ?_
  rintro u H' rfl
  simp only [List.cons_append, List.nil_append]
  refine Seq.nil ?_
  refine JC.rs ?_
  refine Seq.p rfl Ev.move ?_
  refine Seq.p rfl Ev.move ?_
  refine Seq.p rfl Ev.nilP ?_
  refine Seq.p rfl (Ev.fa fd.strings_Builder_1) ?_
  refine Seq.p rfl (Ev.ldB sc.sl_uint8) ?_
  refine Seq.p rfl Ev.move ?_
  refine Seq.buildSlN [_] (hsl := sl.sl_uint8) (hz := z.uint8) (k := ?_); intro b13
  refine Seq.append (hsl := sl.sl_uint8) (he := el.uint8) (hsrc := (fun w' hw => Src.box (news := byteEnc c) (j := 1) sl.sl_uint8 At.z hw rfl (fun q u hu => hu))) (k := ?_); intro A14 c14
  refine Seq.p rfl Ev.nilP ?_
  refine Seq.p rfl (Ev.fa fd.strings_Builder_1) ?_
  refine Seq.storeN [_, _] sz.sl_uint8 (k := ?_)
  refine Seq.nil ?_
  refine JC.rs ?_
  refine Seq.p rfl Ev.assign ?_
  refine Seq.nil ?_
  refine JC.ret ?_
  show retQ _ _ _ _ _ _ _ _
  refine ret1 (hp := Part.skip (Part.refl _)) (hpost := ?_)
  refine ⟨A14, c14, rfl, ?_⟩
  have e1 : (l ++ [c]).length = l.length + 1 := by simp
  have e2 : (l ++ [c]).flatMap byteEnc = l.flatMap byteEnc ++ byteEnc c := by simp
  show _ = [Chunk.box _ _ _, Chunk.own _ _ _ (l ++ [c]).length ((l ++ [c]).flatMap byteEnc)]
  rw [e1, e2]
  rfl
set_option maxHeartbeats 1000000 in
set_option maxRecDepth 100000 in
theorem builderString {w : World} {b : Nat} {p A : Option Addr} {c0 : Nat} {l : List Int} (h0 : l ≠ []) (hO : Own w [.box b 90 [.pointer p, .slice A l.length c0], bytesL (.slice A l.length c0) l]) :
    Spec Go.Proofs.Try.prog 39 #[.pointer (some ⟨b, 0, none⟩)] w [.box b 90 [.pointer p, .slice A l.length c0], bytesL (.slice A l.length c0) l] (fun u _ => u = .string (strOf l)) := by
  obtain ⟨g, off, rfl, hc0⟩ : ∃ g off, A = some ⟨g, off, none⟩ ∧ c0 ≠ 0 := by
    have hl0 : l.length ≠ 0 := by simpa using h0
    have h := hO.ok _ (List.mem_cons_of_mem _ (List.mem_singleton.2 rfl))
    rcases h.2 with ⟨_, h1⟩ | ⟨g, off, cap, cur, fr, he, hg, hnc, _⟩
    · exact absurd h1 hl0
    · cases he
      exact ⟨g, off, rfl, by omega⟩
  refine Spec.enter (fn := Go.Proofs.Try.f39) (n := 14) [.pointer (some ⟨b, 0, none⟩)] Go.Proofs.Try.func39 (by kernel_rfl) rfl Go.Proofs.Try.ntmps39 Go.Proofs.Try.results39 rfl hO ?_
  refine JC.rs ?_
  refine Seq.p rfl Ev.assign ?_
  refine Seq.nil ?_
  refine JC.asP ([.box b 90 [.pointer p, .slice (some ⟨g, off, none⟩) l.length c0]]) mixed (by repeat (first | exact Part.refl _ | exact Part.nil _ | apply Part.here | apply Part.skip)) ?_
  refine Any.p 0 rfl (by kernel_rfl) (by kernel_rfl) (by kernel_rfl) rfl Ev.move ?_
  refine Any.p 1 rfl (by kernel_rfl) (by kernel_rfl) (by kernel_rfl) rfl Ev.nilP ?_
  refine Any.p 2 rfl (by kernel_rfl) (by kernel_rfl) (by kernel_rfl) rfl (Ev.fa fd.strings_Builder_1) ?_
  refine Any.p 3 rfl (by kernel_rfl) (by kernel_rfl) (by kernel_rfl) rfl (Ev.ldB sc.sl_uint8) ?_
  refine Any.p 4 rfl (by kernel_rfl) (by kernel_rfl) (by kernel_rfl) rfl (Ev.sliceData (hc := hc0)) ?_
  refine Any.p 5 rfl (by kernel_rfl) (by kernel_rfl) (by kernel_rfl) rfl Ev.move ?_
  refine Any.p 6 rfl (by kernel_rfl) (by kernel_rfl) (by kernel_rfl) rfl Ev.nilP ?_
  refine Any.p 7 rfl (by kernel_rfl) (by kernel_rfl) (by kernel_rfl) rfl (Ev.fa fd.strings_Builder_1) ?_
  refine Any.p 8 rfl (by kernel_rfl) (by kernel_rfl) (by kernel_rfl) rfl (Ev.ldB sc.sl_uint8) ?_
  refine Any.p 9 rfl (by kernel_rfl) (by kernel_rfl) (by kernel_rfl) rfl (Ev.lenH sl.sl_uint8) ?_
  refine Any.one 10 rfl (by kernel_rfl) ?_
  refine Seq.unsafeStr (i := 1) (l := l) (hp := Go.Proofs.Try.underlying103) (hc := by kernel_rfl) (h0 := h0) (hm := rfl) (k := ?_)
  refine Seq.nil ⟨(by repeat (first | exact Part.refl _ | exact Part.nil _ | apply Part.here | apply Part.skip)), ?_⟩
  refine Any.p 11 rfl (by kernel_rfl) (by kernel_rfl) (by kernel_rfl) rfl Ev.assign ?_
  refine Any.done (by kernel_rfl) ?_
  refine JC.ret ?_
  show retQ _ _ _ _ _ _ _ _
  refine ret1 (hp := Part.nil _) (hpost := ?_)
  rfl
end Go.Rx
/- bits.Div64 by ten. -/
namespace Go.Rx
open Go Go.RowKit
set_option linter.unusedVariables false
set_option linter.unusedSimpArgs false
section
variable {P : Program} {w0 : World} {Cs H : List Chunk} {e : Env} {ty tx ty' : TypeId} {x y : Operand} {a b : Nat} {op : Op}
theorem Ev.toN {k : IntKind} (hr : Ev P w0 Cs H e op ty (.int k (a : Int))) (h : a = b := by omega) : Ev P w0 Cs H e op ty (.int k (b : Int)) := h ▸ hr
theorem Ev.asR {v v' : Value} (hr : Ev P w0 Cs H e op ty v) (h : v = v') : Ev P w0 Cs H e op ty v' := h ▸ hr
end
set_option maxHeartbeats 1000000 in
set_option maxRecDepth 100000 in
theorem len64Ten {w : World} : Spec Go.Proofs.Try.prog 57 #[.int .u64 10] w [] (fun u _ => u = .int .i64 4) := by
  refine Spec.enter (fn := Go.Proofs.Try.f57) (n := 25) [.int .u64 10] Go.Proofs.Try.func57 (by kernel_rfl) rfl Go.Proofs.Try.ntmps57 Go.Proofs.Try.results57 rfl (Own.nil _) ?_
  refine JC.rs ?_
  refine Seq.p rfl Ev.assign ?_
  refine Seq.nil ?_
  refine JC.seq ?_
  refine JC.rs ?_
  refine Seq.p rfl Ev.move ?_
  refine Seq.p rfl Ev.ge ?_
  refine Seq.nil ?_
  first | refine JC.c (ht := fun c4 => ?_) (hf := fun c4 => ?_) | refine JC.cb (ht := fun c4 => ?_) (hf := fun c4 => ?_)
  · -- then_t4
    exact absurd c4 (by decide)
  · -- else_t4
    refine JC.skip ?_
    refine JC.seq ?_
    refine JC.rs ?_
    refine Seq.p rfl Ev.move ?_
    refine Seq.p rfl Ev.ge ?_
    refine Seq.nil ?_
    first | refine JC.c (ht := fun c8 => ?_) (hf := fun c8 => ?_) | refine JC.cb (ht := fun c8 => ?_) (hf := fun c8 => ?_)
    · -- then_t8
      exact absurd c8 (by decide)
    · -- else_t8
      refine JC.skip ?_
      refine JC.seq ?_
      refine JC.rs ?_
      refine Seq.p rfl Ev.move ?_
      refine Seq.p rfl Ev.ge ?_
      refine Seq.nil ?_
      first | refine JC.c (ht := fun c14 => ?_) (hf := fun c14 => ?_) | refine JC.cb (ht := fun c14 => ?_) (hf := fun c14 => ?_)
      · -- then_t14
        exact absurd c14 (by decide)
      · -- else_t14
        refine JC.skip ?_
        refine JC.rs ?_
        refine Seq.p rfl Ev.move ?_
        refine Seq.p rfl Ev.move ?_
        refine Seq.p rfl (Ev.convU8W it.uint64 it.uint8) ?_
        refine Seq.p rfl (Ev.asR (v' := .int .u8 4) (Ev.indexStr (i := 10) st.string (hi := by decide)) (by rfl)) ?_
        refine Seq.p rfl (Ev.conv64 (a := 4) it.uint8 it.int) ?_
        refine Seq.p rfl Ev.add ?_
        refine Seq.p rfl Ev.assign ?_
        refine Seq.nil ?_
        refine JC.ret ?_
        show retQ _ _ _ _ _ _ _ _
        refine ret1 (hp := Part.nil _) (hpost := ?_)
        rfl
set_option maxHeartbeats 1000000 in
set_option maxRecDepth 100000 in
theorem leadingTen {w : World} : Spec Go.Proofs.Try.prog 48 #[.int .u64 10] w [] (fun u _ => u = .int .i64 60) := by
  refine Spec.enter (fn := Go.Proofs.Try.f48) (n := 6) [.int .u64 10] Go.Proofs.Try.func48 (by kernel_rfl) rfl Go.Proofs.Try.ntmps48 Go.Proofs.Try.results48 rfl (Own.nil _) ?_
  refine JC.rs ?_
  refine Seq.p rfl Ev.assign ?_
  refine Seq.nil ?_
  refine JC.rs ?_
  refine Seq.p rfl Ev.move ?_
  refine Seq.callP rfl (fun w hw => len64Ten) ?_
  refine Seq.p rfl Ev.sub ?_
  refine Seq.p rfl Ev.assign ?_
  refine Seq.nil ?_
  refine JC.ret ?_
  show retQ _ _ _ _ _ _ _ _
  refine ret1 (hp := Part.nil _) (hpost := ?_)
  rfl
section
variable {P : Program} {w0 : World} {Cs H : List Chunk} {e : Env} {ty tx ty' : TypeId} {x y : Operand} {a b : Nat} {op : Op}
theorem Ev.subM (hx : Look e x (.int .u64 (a : Int)) := by repeat (first | exact Look.here | apply Look.there (hne := rfl) | exact Look.const | apply Look.mix rfl | exact Look.arg0 | apply Look.args | exact Look.func)) (hy : Look e y (.int .u64 (b : Int)) := by repeat (first | exact Look.here | apply Look.there (hne := rfl) | exact Look.const | apply Look.mix rfl | exact Look.arg0 | apply Look.args | exact Look.func)) (h : b ≤ 18446744073709551616 := by omega) : Ev P w0 Cs H e (.binOp .sub tx x y ty') ty (.int .u64 (((a + 18446744073709551616 - b) % 18446744073709551616 : Nat) : Int)) :=
  Ev.as (by rw [wrap_u64']; congr 1; omega) (Ev.subW hx hy)
theorem Ev.shlNM {k' : IntKind} {s : Int} (r : Nat) (hx : Look e x (.int .u64 (a : Int)) := by repeat (first | exact Look.here | apply Look.there (hne := rfl) | exact Look.const | apply Look.mix rfl | exact Look.arg0 | apply Look.args | exact Look.func)) (hy : Look e y (.int k' s) := by repeat (first | exact Look.here | apply Look.there (hne := rfl) | exact Look.const | apply Look.mix rfl | exact Look.arg0 | apply Look.args | exact Look.func)) (hs : 0 ≤ s := by omega) (hr : ((2 : Int) ^ (Min.min s.toNat IntKind.u64.bits)) = (r : Int) := by rfl) :
    Ev P w0 Cs H e (.binOp .shl tx x y ty') ty (.int .u64 ((a * r % 18446744073709551616 : Nat) : Int)) := by
  refine Ev.as ?_ (Ev.shlW hx hy hs)
  rw [hr, wrap_u64']
  congr 1
end
theorem or_high {a b : Nat} (hb : b < 1152921504606846976) : a * 1152921504606846976 ||| b = a * 1152921504606846976 + b := by
  have := Nat.two_pow_add_eq_or_of_lt (i := 60) (b := b) hb a
  rw [Nat.mul_comm (2 ^ 60) a] at this
  exact this.symm
theorem div10_parts {h l : Nat} (hh : h < 10) (hl : l < 18446744073709551616) : ∃ A q1 r1 B C q0 r0 : Nat, A = h * 1152921504606846976 + l / 16 ∧ B = l % 16 * 268435456 ∧ A = q1 * 2684354560 + r1 ∧ r1 < 2684354560 ∧ q1 < 4294967296 ∧ C = r1 * 4294967296 + B ∧
    C = q0 * 2684354560 + r0 ∧ r0 < 2684354560 ∧ q0 < 4294967296 ∧ q1 * 4294967296 + q0 = (h * 18446744073709551616 + l) / 10 ∧ r0 = (h * 18446744073709551616 + l) % 10 * 268435456 := by
  refine ⟨_, (h * 1152921504606846976 + l / 16) / 2684354560, (h * 1152921504606846976 + l / 16) % 2684354560, _, _, ((h * 1152921504606846976 + l / 16) % 2684354560 * 4294967296 + l % 16 * 268435456) / 2684354560, ((h * 1152921504606846976 + l / 16) % 2684354560 * 4294967296 + l % 16 * 268435456) % 2684354560, rfl, rfl, ?_, ?_, ?_, rfl, ?_, ?_, ?_, ?_, ?_⟩ <;> omega
set_option maxHeartbeats 4000000 in
set_option maxRecDepth 100000 in
theorem div64Ten {w : World} {h l : Nat} (hh : h < 10) (hl : l < 18446744073709551616) : Spec Go.Proofs.Try.prog 37 #[.int .u64 (h : Int), .int .u64 (l : Int), .int .u64 10] w [] (fun u _ => u = .tuple #[.int .u64 (((h * 18446744073709551616 + l) / 10 : Nat) : Int), .int .u64 (((h * 18446744073709551616 + l) % 10 : Nat) : Int)]) := by
  obtain ⟨A, q1, r1, B, C, q0, r0, hA, hB, hA2, hr1, hq1, hC, hC2, hr0, hq0, hQ, hR⟩ := div10_parts hh hl
  refine Spec.enter (fn := Go.Proofs.Try.f37) (n := 135) [.int .u64 (h : Int), .int .u64 (l : Int), .int .u64 10] Go.Proofs.Try.func37 (by kernel_rfl) rfl Go.Proofs.Try.ntmps37 Go.Proofs.Try.results37 rfl (Own.nil _) ?_
  refine JC.rs ?_
  refine Seq.p rfl Ev.assign ?_
  refine Seq.p rfl Ev.assign ?_
  refine Seq.nil ?_
  refine JC.seq ?_
  refine JC.rs ?_
  refine Seq.p rfl Ev.move ?_
  refine Seq.p rfl Ev.eq ?_
  refine Seq.nil ?_
  first | refine JC.c (ht := fun c20 => ?_) (hf := fun c20 => ?_) | refine JC.cb (ht := fun c20 => ?_) (hf := fun c20 => ?_)
  · -- then_t20
    exact absurd c20 (by decide)
  · -- else_t20
    refine JC.skip ?_
    refine JC.seq ?_
    refine JC.rs ?_
    refine Seq.p rfl Ev.move ?_
    refine Seq.p rfl Ev.move ?_
    refine Seq.p rfl Ev.le ?_
    refine Seq.nil ?_
    first | refine JC.c (ht := fun c24 => ?_) (hf := fun c24 => ?_) | refine JC.cb (ht := fun c24 => ?_) (hf := fun c24 => ?_)
    · -- then_t24
      omega
    · -- else_t24
      refine JC.skip ?_
      refine JC.seq ?_
      refine JC.rs ?_
      refine Seq.p rfl Ev.move ?_
      refine Seq.p rfl Ev.eq ?_
      refine Seq.nil ?_
      first | refine JC.c (ht := fun c27 => ?_) (hf := fun c27 => ?_) | refine JC.cb (ht := fun c27 => ?_) (hf := fun c27 => ?_)
      · -- then_t27
        obtain rfl : h = 0 := by omega
        rw [Nat.zero_mul, Nat.zero_add]
        refine JC.qs mixed (by kernel_rfl) ?_
        refine Qui.p rfl Ev.move ?_
        refine Qui.p rfl Ev.move ?_
        refine Qui.p rfl (Ev.quoNU (a := l) (b := 10)) ?_
        refine Qui.p rfl Ev.move ?_
        refine Qui.p rfl Ev.move ?_
        refine Qui.p rfl (Ev.remNU (a := l) (b := 10)) ?_
        refine Qui.p rfl Ev.assign ?_
        refine Qui.p rfl Ev.assign ?_
        refine Qui.nil ?_
        refine JC.ret ?_
        show retQ _ _ _ _ _ _ _ _
        refine ret2 (hp := Part.nil _) (hpost := ?_)
        rfl
      · -- else_t27
        refine JC.skip ?_
        refine JC.rs ?_
        refine Seq.p rfl Ev.move ?_
        refine Seq.callP rfl (fun w hw => leadingTen) ?_
        refine Seq.p rfl (Ev.convU64 (a := 60) it.int it.uint) ?_
        refine Seq.p rfl Ev.assign ?_
        refine Seq.nil ?_
        refine JC.rs ?_
        refine Seq.p rfl Ev.move ?_
        refine Seq.p rfl Ev.move ?_
        refine Seq.p rfl (Ev.shlB (r := 11529215046068469760) (hr := by rfl)) ?_
        refine Seq.p rfl Ev.assign ?_
        refine Seq.nil ?_
        refine JC.rs ?_
        refine Seq.p rfl Ev.move ?_
        refine Seq.p rfl (Ev.toN (b := 2684354560) (Ev.shrNU 4294967296 (a := 11529215046068469760))) ?_
        refine Seq.p rfl Ev.assign ?_
        refine Seq.nil ?_
        refine JC.rs ?_
        refine Seq.p rfl Ev.move ?_
        refine Seq.p rfl (Ev.toN (b := 0) (Ev.lowNU 32 4294967296 (m := 4294967295) (a := 11529215046068469760))) ?_
        refine Seq.p rfl Ev.assign ?_
        refine Seq.nil ?_
        refine JC.rs ?_
        refine Seq.p rfl Ev.move ?_
        refine Seq.p rfl Ev.move ?_
        refine Seq.p rfl (Ev.toN (b := h * 1152921504606846976) (Ev.shlNM 1152921504606846976 (a := h))) ?_
        refine Seq.p rfl Ev.move ?_
        refine Seq.p rfl Ev.move ?_
        refine Seq.p rfl Ev.subU ?_
        refine Seq.p rfl (Ev.shrNU 16 (a := l)) ?_
        refine Seq.p rfl (Ev.toN (b := A) (Ev.orN (a := h * 1152921504606846976) (b := l / 16)) (by rw [or_high (by omega), hA])) ?_
        refine Seq.p rfl Ev.assign ?_
        refine Seq.nil ?_
        refine JC.rs ?_
        refine Seq.p rfl Ev.move ?_
        refine Seq.p rfl Ev.move ?_
        refine Seq.p rfl (Ev.toN (b := l % 16 * 1152921504606846976) (Ev.shlNM 1152921504606846976 (a := l))) ?_
        refine Seq.p rfl Ev.assign ?_
        refine Seq.nil ?_
        refine JC.rs ?_
        refine Seq.p rfl Ev.move ?_
        refine Seq.p rfl (Ev.toN (b := B) (Ev.shrNU 4294967296 (a := l % 16 * 1152921504606846976))) ?_
        refine Seq.p rfl Ev.assign ?_
        refine Seq.nil ?_
        refine JC.rs ?_
        refine Seq.p rfl Ev.move ?_
        refine Seq.p rfl (Ev.toN (b := 0) (Ev.lowNU 32 4294967296 (m := 4294967295) (a := l % 16 * 1152921504606846976))) ?_
        refine Seq.p rfl Ev.assign ?_
        refine Seq.nil ?_
        refine JC.rs ?_
        refine Seq.p rfl Ev.move ?_
        refine Seq.p rfl Ev.move ?_
        refine Seq.p rfl (Ev.toN (b := q1) (Ev.quoNU (a := A) (b := 2684354560))) ?_
        refine Seq.p rfl Ev.assign ?_
        refine Seq.nil ?_
        refine JC.rs ?_
        refine Seq.p rfl Ev.move ?_
        refine Seq.p rfl Ev.move ?_
        refine Seq.p rfl Ev.move ?_
        refine Seq.p rfl (Ev.mulNU (a := q1) (b := 2684354560)) ?_
        refine Seq.p rfl (Ev.toN (b := r1) (Ev.subNU (a := A) (b := q1 * 2684354560))) ?_
        refine Seq.p rfl Ev.assign ?_
        refine Seq.nil ?_
        refine JC.seq ?_
        refine JC.blk ?_
        refine JC.loop (α := Nat) (I := fun i e1 H1 => Has [15, 16, 67, 68, 69, 70, 71, 72, 73, 74, 75, 76, 77, 78, 79, 80, 81, 82, 83, 84, 85] [(15, .int .u64 (q1 : Int)), (16, .int .u64 (r1 : Int))] _ e1 ∧ H1 = []) (μ := fun i => 0) 0 ⟨Has.mk Off.refl (allLook_cons (by repeat (first | exact Look.here | apply Look.there (hne := rfl) | exact Look.const | apply Look.mix rfl | exact Look.arg0 | apply Look.args | exact Look.func)) (allLook_cons (by repeat (first | exact Look.here | apply Look.there (hne := rfl) | exact Look.const | apply Look.mix rfl | exact Look.arg0 | apply Look.args | exact Look.func)) allLook_nil)), rfl⟩ ?_
        rintro i _ _ ⟨⟨u, rfl⟩, rfl⟩; dsimp only [setL]
        refine JC.seq ?_
        refine JC.rs ?_
        refine Seq.p rfl Ev.move ?_
        refine Seq.p rfl Ev.ge ?_
        refine Seq.p rfl Ev.move ?_
        refine Seq.orG (D := [69, 70, 71, 72, 73, 74, 75, 76, 77, 78]) (d := 69) (t := 78) (k := 9) (hn := fun h69 => ?_) (hx := ?_)
        · repeat (first | refine Seq.gn rfl rfl rfl rfl ?_ | refine Seq.gu rfl rfl rfl ?_)
          refine Seq.p rfl Ev.pickT ?_
          exact Seq.nil ⟨rfl, (by repeat (first | with_reducible exact Off.refl | refine Off.upd ?_ rfl | exact Off.mix | refine Off.mix2 ?_ rfl)), Look.here⟩
        apply Exists.intro
        refine ⟨fun h69 => ?_, fun u78 => ?_⟩
        · try simp only [decide_eq_true_eq, decide_eq_false_iff_not, Bool.and_eq_true, Bool.or_eq_true, Bool.not_eq_true', Bool.not_eq_false', Bool.or_eq_false_iff, Bool.and_eq_false_imp] at h69
          refine Seq.gy rfl rfl rfl ?_
          refine Seq.p rfl Ev.move ?_
          refine Seq.gy rfl rfl rfl ?_
          refine Seq.p rfl Ev.move ?_
          refine Seq.gy rfl rfl rfl ?_
          refine Seq.p rfl (Ev.toN (b := 0) (Ev.mulNU (a := q1) (b := 0))) ?_
          refine Seq.gy rfl rfl rfl ?_
          refine Seq.p rfl Ev.move ?_
          refine Seq.gy rfl rfl rfl ?_
          refine Seq.p rfl (Ev.mulNU (a := 4294967296) (b := r1)) ?_
          refine Seq.gy rfl rfl rfl ?_
          refine Seq.p rfl Ev.move ?_
          refine Seq.gy rfl rfl rfl ?_
          refine Seq.p rfl (Ev.addNU (a := 4294967296 * r1) (b := B)) ?_
          refine Seq.gy rfl rfl rfl ?_
          refine Seq.p rfl Ev.gt ?_
          refine Seq.p rfl Ev.pickF ?_
          exact Seq.nil ⟨rfl, (by repeat (first | with_reducible exact Off.refl | refine Off.upd ?_ rfl | exact Off.mix | refine Off.mix2 ?_ rfl)), Look.here⟩
        refine Seq.nil ?_
        first | refine JC.c (ht := fun c78 => ?_) (hf := fun c78 => ?_) | refine JC.cb (ht := fun c78 => ?_) (hf := fun c78 => ?_)
        · -- then_t78
          exfalso; simp only [Bool.or_eq_true, decide_eq_true_eq] at c78; omega
        · -- else_t78
          refine JC.exit ?_ -- 0
          refine JC.rs ?_
          refine Seq.p rfl Ev.move ?_
          refine Seq.p rfl (Ev.mulNM (a := A) (b := 4294967296)) ?_
          refine Seq.p rfl Ev.move ?_
          refine Seq.p rfl (Ev.addNM (b := B)) ?_
          refine Seq.p rfl Ev.move ?_
          refine Seq.p rfl Ev.move ?_
          refine Seq.p rfl (Ev.mulNM (a := q1) (b := 11529215046068469760)) ?_
          refine Seq.p rfl (Ev.toN (b := C) (Ev.subM)) ?_
          refine Seq.p rfl Ev.assign ?_
          refine Seq.nil ?_
          refine JC.rs ?_
          refine Seq.p rfl Ev.move ?_
          refine Seq.p rfl Ev.move ?_
          refine Seq.p rfl (Ev.toN (b := q0) (Ev.quoNU (a := C) (b := 2684354560))) ?_
          refine Seq.p rfl Ev.assign ?_
          refine Seq.nil ?_
          refine JC.rs ?_
          refine Seq.p rfl Ev.move ?_
          refine Seq.p rfl Ev.move ?_
          refine Seq.p rfl Ev.move ?_
          refine Seq.p rfl (Ev.mulNU (a := q0) (b := 2684354560)) ?_
          refine Seq.p rfl (Ev.toN (b := r0) (Ev.subNU (a := C) (b := q0 * 2684354560))) ?_
          refine Seq.p rfl Ev.assign ?_
          refine Seq.nil ?_
          refine JC.seq ?_
          refine JC.blk ?_
          refine JC.loop (α := Nat) (I := fun i e1 H1 => Has [16, 18, 102, 103, 104, 105, 106, 107, 108, 109, 110, 111, 112, 113, 114, 115, 116, 117, 118, 119, 120] [(18, .int .u64 (q0 : Int)), (16, .int .u64 (r0 : Int))] _ e1 ∧ H1 = []) (μ := fun i => 0) 0 ⟨Has.mk Off.refl (allLook_cons (by repeat (first | exact Look.here | apply Look.there (hne := rfl) | exact Look.const | apply Look.mix rfl | exact Look.arg0 | apply Look.args | exact Look.func)) (allLook_cons (by repeat (first | exact Look.here | apply Look.there (hne := rfl) | exact Look.const | apply Look.mix rfl | exact Look.arg0 | apply Look.args | exact Look.func)) allLook_nil)), rfl⟩ ?_
          rintro i _ _ ⟨⟨u, rfl⟩, rfl⟩; dsimp only [setL]
          refine JC.seq ?_
          refine JC.rs ?_
          refine Seq.p rfl Ev.move ?_
          refine Seq.p rfl Ev.ge ?_
          refine Seq.p rfl Ev.move ?_
          refine Seq.orG (D := [104, 105, 106, 107, 108, 109, 110, 111, 112, 113]) (d := 104) (t := 113) (k := 9) (hn := fun h104 => ?_) (hx := ?_)
          · repeat (first | refine Seq.gn rfl rfl rfl rfl ?_ | refine Seq.gu rfl rfl rfl ?_)
            refine Seq.p rfl Ev.pickT ?_
            exact Seq.nil ⟨rfl, (by repeat (first | with_reducible exact Off.refl | refine Off.upd ?_ rfl | exact Off.mix | refine Off.mix2 ?_ rfl)), Look.here⟩
          apply Exists.intro
          refine ⟨fun h104 => ?_, fun u113 => ?_⟩
          · try simp only [decide_eq_true_eq, decide_eq_false_iff_not, Bool.and_eq_true, Bool.or_eq_true, Bool.not_eq_true', Bool.not_eq_false', Bool.or_eq_false_iff, Bool.and_eq_false_imp] at h104
            refine Seq.gy rfl rfl rfl ?_
            refine Seq.p rfl Ev.move ?_
            refine Seq.gy rfl rfl rfl ?_
            refine Seq.p rfl Ev.move ?_
            refine Seq.gy rfl rfl rfl ?_
            refine Seq.p rfl (Ev.toN (b := 0) (Ev.mulNU (a := q0) (b := 0))) ?_
            refine Seq.gy rfl rfl rfl ?_
            refine Seq.p rfl Ev.move ?_
            refine Seq.gy rfl rfl rfl ?_
            refine Seq.p rfl (Ev.mulNU (a := 4294967296) (b := r0)) ?_
            refine Seq.gy rfl rfl rfl ?_
            refine Seq.p rfl Ev.move ?_
            refine Seq.gy rfl rfl rfl ?_
            refine Seq.p rfl (Ev.addNU (a := 4294967296 * r0) (b := 0)) ?_
            refine Seq.gy rfl rfl rfl ?_
            refine Seq.p rfl Ev.gt ?_
            refine Seq.p rfl Ev.pickF ?_
            exact Seq.nil ⟨rfl, (by repeat (first | with_reducible exact Off.refl | refine Off.upd ?_ rfl | exact Off.mix | refine Off.mix2 ?_ rfl)), Look.here⟩
          refine Seq.nil ?_
          first | refine JC.c (ht := fun c113 => ?_) (hf := fun c113 => ?_) | refine JC.cb (ht := fun c113 => ?_) (hf := fun c113 => ?_)
          · -- then_t113
            exfalso; simp only [Bool.or_eq_true, decide_eq_true_eq] at c113; omega
          · -- else_t113
            refine JC.exit ?_ -- 2
            refine JC.rs ?_
            refine Seq.p rfl Ev.move ?_
            refine Seq.p rfl (Ev.mulNU (a := q1) (b := 4294967296)) ?_
            refine Seq.p rfl Ev.move ?_
            refine Seq.p rfl (Ev.toN (b := (h * 18446744073709551616 + l) / 10) (Ev.addNU (a := q1 * 4294967296) (b := q0))) ?_
            refine Seq.p rfl Ev.move ?_
            refine Seq.p rfl (Ev.mulNM (a := C) (b := 4294967296)) ?_
            refine Seq.p rfl Ev.move ?_
            refine Seq.p rfl (Ev.addNM (b := 0)) ?_
            refine Seq.p rfl Ev.move ?_
            refine Seq.p rfl Ev.move ?_
            refine Seq.p rfl (Ev.mulNM (a := q0) (b := 11529215046068469760)) ?_
            refine Seq.p rfl (Ev.toN (b := r0 * 4294967296) (Ev.subM)) ?_
            refine Seq.p rfl Ev.move ?_
            refine Seq.p rfl (Ev.toN (b := (h * 18446744073709551616 + l) % 10) (Ev.shrNU 1152921504606846976 (a := r0 * 4294967296))) ?_
            refine Seq.p rfl Ev.assign ?_
            refine Seq.p rfl Ev.assign ?_
            refine Seq.nil ?_
            refine JC.ret ?_
            show retQ _ _ _ _ _ _ _ _
            refine ret2 (hp := Part.nil _) (hpost := ?_)
            rfl
end Go.Rx
/- An amount's text, by the program. -/
namespace Go.Rx
open Go Go.RowKit
set_option linter.unusedVariables false
set_option linter.unusedSimpArgs false
def dl (n j : Nat) : List Int := if j < 2 then rdig n j else (rdig n j).take 2 ++ [46] ++ (rdig n j).drop 2
theorem dl_len (n j : Nat) : (dl n j).length = if j < 2 then j else j + 1 := by
  unfold dl
  split
  · exact rdig_len n j
  · simp only [List.length_append, List.length_take, List.length_drop, rdig_len, List.length_cons, List.length_nil]; omega
theorem dl_low {n j : Nat} (h : j < 1) : dl n (j + 1) = dl n j ++ [48 + ((n / 10 ^ j % 10 : Nat) : Int)] := by
  unfold dl; rw [if_pos (by omega), if_pos (by omega), rdig_snoc]
theorem dl_two (n : Nat) : dl n 2 = dl n 1 ++ [48 + ((n / 10 ^ 1 % 10 : Nat) : Int)] ++ [46] := by
  unfold dl; rw [if_neg (by omega), if_pos (by omega), rdig_snoc n 1]
  have h1 : (rdig n 1 ++ [48 + ((n / 10 ^ 1 % 10 : Nat) : Int)]).length = 2 := by simp [rdig_len]
  rw [List.take_of_length_le (by omega), List.drop_of_length_le (by omega), List.append_nil]
theorem dl_high {n j : Nat} (h : 2 ≤ j) : dl n (j + 1) = dl n j ++ [48 + ((n / 10 ^ j % 10 : Nat) : Int)] := by
  unfold dl; rw [if_neg (by omega), if_neg (by omega), rdig_snoc, List.take_append_of_le_length (by rw [rdig_len]; exact h), List.drop_append_of_le_length (by rw [rdig_len]; exact h)]; simp
theorem dl_text (n : Nat) : (dl n (kF n)).reverse = textL n := by
  have h := (kF_stop n).2.1
  unfold dl textL; rw [if_neg (by omega)]; simp
theorem bytes_len {l : List Int} {d : Int} : l.length + 1 = (l ++ [d]).length := by simp
theorem bytes_flat {l : List Int} {d : Int} : l.flatMap byteEnc ++ byteEnc d = (l ++ [d]).flatMap byteEnc := by simp
theorem rev_take {S : List Int} {i : Nat} (h : i < S.length) : S.reverse.take (i + 1) = S.reverse.take i ++ [S[S.length - 1 - i]!] := by
  rw [List.take_add_one, List.getElem?_reverse (by simpa using h), getElem!_pos S _ (by omega), List.getElem?_eq_getElem (by omega)]
  rfl
theorem or_zero {a b : Nat} : (a ||| b = 0) ↔ (a = 0 ∧ b = 0) := by
  constructor
  · intro h
    have h1 : a ≤ a ||| b := Nat.left_le_or
    have h2 : b ≤ a ||| b := Nat.right_le_or
    omega
  · rintro ⟨rfl, rfl⟩; rfl
theorem hl_zero {a : Nat} : ∃ Z, (a / 18446744073709551616 ||| a % 18446744073709551616) = Z ∧ (Z = 0 ↔ a = 0) := ⟨_, rfl, by rw [or_zero]; omega⟩
set_option maxHeartbeats 4000000 in
set_option maxRecDepth 100000 in
theorem numText {w : World} {n : Nat} (hn : n < moneyTop) : Spec Go.Proofs.Try.prog 17 #[.agg (mon n).toArray] w [] (fun u _ => u = .string (strOf (textL n))) := by
  refine Spec.enter (fn := Go.Proofs.Try.f17) (n := 72) [.agg (mon n).toArray] Go.Proofs.Try.func17 (by kernel_rfl) rfl Go.Proofs.Try.ntmps17 Go.Proofs.Try.results17 rfl (Own.nil _) ?_
  refine JC.rs ?_
  refine Seq.box (cs := mon n) (k := ?_); intro b1
  refine Seq.p rfl Ev.assign ?_
  refine Seq.nil ?_
  refine JC.qs mixed (by kernel_rfl) ?_
  refine Qui.p rfl (Ev.fa fd.num_Money_0) ?_
  refine Qui.p rfl (Ev.ldB sc.uint64) ?_
  refine Qui.p rfl (Ev.fa fd.num_Money_1) ?_
  refine Qui.p rfl (Ev.ldB sc.uint64) ?_
  refine Qui.p rfl Ev.assign ?_
  refine Qui.p rfl Ev.assign ?_
  refine Qui.nil ?_
  refine JC.rs ?_
  refine Seq.p rfl Ev.assign ?_
  refine Seq.nil ?_
  refine JC.re (fun w h => Upd.nilOwn h 5 1) ?_
  refine JC.seq ?_
  refine JC.blk ?_
  refine JC.loop (α := Nat) (I := fun j e1 H1 => ∃ A c, Has [3, 4, 5, 6, 13, 14, 15, 16, 17, 18, 19, 20, 21, 22, 23, 24, 25, 26, 27, 28, 29, 30, 31, 32, 33, 34, 35, 36, 37, 38, 39, 40, 41, 42, 43, 44, 45, 46, 47, 48, 49, 50] [(3, .int .u64 ((n / 10 ^ j / 18446744073709551616 : Nat) : Int)), (4, .int .u64 ((n / 10 ^ j % 18446744073709551616 : Nat) : Int)), (5, .slice A (dl n j).length c)] _ e1 ∧ H1 = [bytesL (.slice A (dl n j).length c) (dl n j), .box b1 37 (mon n)] ∧ (j = 2 → n / 10 ^ 2 ≠ 0) ∧ (j ≤ 3 ∨ n / 10 ^ (j - 1) ≠ 0) ∧ j ≤ 39) (μ := fun j => 50 - j) 0 ⟨none, 0, by rw [Nat.pow_zero, Nat.div_one]; exact Has.mk Off.refl (allLook_cons (by repeat (first | exact Look.here | apply Look.there (hne := rfl) | exact Look.const | apply Look.mix rfl | exact Look.arg0 | apply Look.args | exact Look.func)) (allLook_cons (by repeat (first | exact Look.here | apply Look.there (hne := rfl) | exact Look.const | apply Look.mix rfl | exact Look.arg0 | apply Look.args | exact Look.func)) (allLook_cons (by repeat (first | exact Look.here | apply Look.there (hne := rfl) | exact Look.const | apply Look.mix rfl | exact Look.arg0 | apply Look.args | exact Look.func)) allLook_nil))), rfl, fun h => absurd h (by decide), .inl (by decide), by decide⟩ ?_
  rintro j _ _ ⟨A, c, ⟨u, rfl⟩, rfl, hj2, hj3, hj39⟩; dsimp only [setL]
  have hll := dl_len n j
  have hsm : n / 10 ^ j < moneyTop := Nat.lt_of_le_of_lt (Nat.div_le_self _ _) hn
  have hdiv : n / 10 ^ j / 10 = n / 10 ^ (j + 1) := by rw [Nat.div_div_eq_div_mul, Nat.pow_succ]
  have hlow := @dl_low n j
  have hhigh := @dl_high n j
  have htp := @ten_pow n j hn
  obtain ⟨a, hae⟩ : ∃ a, a = n / 10 ^ j := ⟨_, rfl⟩
  rw [← hae] at hsm hdiv hlow hhigh htp ⊢
  obtain ⟨L, hL⟩ : ∃ L, L = dl n j := ⟨_, rfl⟩
  rw [← hL] at hll hlow hhigh ⊢
  obtain ⟨Z, hZe, hZ⟩ := @hl_zero a
  have hsm2 : a < 170141183460469231731687303715884105728 := hsm
  have hll2 : L.length ≤ 40 := by rw [hll]; split <;> omega
  refine JC.seq ?_
  refine JC.rs ?_
  refine Seq.p rfl Ev.move ?_
  refine Seq.p rfl Ev.move ?_
  refine Seq.p rfl (Ev.toN (b := Z) (Ev.orN (a := a / 18446744073709551616) (b := a % 18446744073709551616)) hZe) ?_
  refine Seq.p rfl Ev.ne ?_
  refine Seq.p rfl Ev.move ?_
  refine Seq.orG (D := [17, 18, 19, 20, 21]) (d := 17) (t := 21) (k := 4) (hn := fun h17 => ?_) (hx := ?_)
  · repeat (first | refine Seq.gn rfl rfl rfl rfl ?_ | refine Seq.gu rfl rfl rfl ?_)
    refine Seq.p rfl Ev.pickT ?_
    exact Seq.nil ⟨rfl, (by repeat (first | with_reducible exact Off.refl | refine Off.upd ?_ rfl | exact Off.mix | refine Off.mix2 ?_ rfl)), Look.here⟩
  apply Exists.intro
  refine ⟨fun h17 => ?_, fun u21 => ?_⟩
  · try simp only [decide_eq_true_eq, decide_eq_false_iff_not, Bool.and_eq_true, Bool.or_eq_true, Bool.not_eq_true', Bool.not_eq_false', Bool.or_eq_false_iff, Bool.and_eq_false_imp] at h17
    refine Seq.gy rfl rfl rfl ?_
    refine Seq.p rfl Ev.move ?_
    refine Seq.gy rfl rfl rfl ?_
    refine Seq.p rfl (Ev.lenH sl.sl_uint8) ?_
    refine Seq.gy rfl rfl rfl ?_
    refine Seq.p rfl Ev.lt ?_
    refine Seq.p rfl Ev.pickF ?_
    exact Seq.nil ⟨rfl, (by repeat (first | with_reducible exact Off.refl | refine Off.upd ?_ rfl | exact Off.mix | refine Off.mix2 ?_ rfl)), Look.here⟩
  refine Seq.nil ?_
  first | refine JC.c (ht := fun c21 => ?_) (hf := fun c21 => ?_) | refine JC.cb (ht := fun c21 => ?_) (hf := fun c21 => ?_)
  · -- then_t21
    have hk2 : (a ≠ 0 ∨ j < 2) ∧ j + 1 ≤ 39 := by
      simp only [Bool.or_eq_true, decide_eq_true_eq] at c21
      rcases c21 with h | h
      · have h1 : a ≠ 0 := fun h0 => h (by rw [hZ.2 h0]; rfl)
        have := htp h1
        exact ⟨.inl h1, by omega⟩
      · have : j < 2 := by
          split at hll <;> omega
        exact ⟨.inr this, by omega⟩
    obtain ⟨hk1, hk2⟩ := hk2
    obtain ⟨Z2, hZe2, hZ2⟩ := @hl_zero (a / 10)
    obtain ⟨d, hd⟩ : ∃ d : Int, d = 48 + ((a % 10 : Nat) : Int) := ⟨_, rfl⟩
    rw [← hd] at hlow hhigh
    refine JC.skip ?_
    refine JC.blk ?_
    refine JC.rs ?_
    refine Seq.p rfl Ev.assign ?_
    refine Seq.nil ?_
    refine JC.rs ?_
    refine Seq.p rfl Ev.move ?_
    refine Seq.p rfl (Ev.toN (b := a / 10 / 18446744073709551616) (Ev.quoNU (a := a / 18446744073709551616) (b := 10))) ?_
    refine Seq.p rfl Ev.move ?_
    refine Seq.p rfl (Ev.remNU (a := a / 18446744073709551616) (b := 10)) ?_
    refine Seq.p rfl Ev.assign ?_
    refine Seq.p rfl Ev.assign ?_
    refine Seq.nil ?_
    refine JC.rs ?_
    refine Seq.p rfl Ev.move ?_
    refine Seq.p rfl Ev.move ?_
    refine Seq.callP rfl (fun w hw => div64Ten (h := a / 18446744073709551616 % 10) (l := a % 18446744073709551616) (by omega) (by omega)) ?_
    refine Seq.p rfl Ev.move ?_
    refine Seq.p rfl (Ev.toN (b := a / 10 % 18446744073709551616) (a := (a / 18446744073709551616 % 10 * 18446744073709551616 + a % 18446744073709551616) / 10) Ev.extract) ?_
    refine Seq.p rfl (Ev.toN (b := a % 10) (a := (a / 18446744073709551616 % 10 * 18446744073709551616 + a % 18446744073709551616) % 10) Ev.extract) ?_
    refine Seq.p rfl Ev.assign ?_
    refine Seq.p rfl Ev.assign ?_
    refine Seq.nil ?_
    refine JC.rs ?_
    refine Seq.p rfl Ev.move ?_
    refine Seq.p rfl Ev.move ?_
    refine Seq.p rfl (Ev.addNU (a := 48) (b := a % 10)) ?_
    refine Seq.p rfl (Ev.asR (v' := .int .u8 d) (Ev.convU8 it.uint64 it.uint8) (by rw [hd]; congr 1)) ?_
    refine Seq.buildSlN [_] (hsl := sl.sl_uint8) (hz := z.uint8) (k := ?_); intro b36
    refine Seq.append (hsl := sl.sl_uint8) (he := el.uint8) (hsrc := fun w' hw => Src.box (news := byteEnc d) (j := 1) sl.sl_uint8 At.z hw rfl (fun q u hu => hu)) (k := ?_); intro A37 c37
    rw [bytes_len (l := L) (d := d), bytes_flat (l := L) (d := d)]
    refine Seq.p rfl Ev.assign ?_
    refine Seq.nil ?_
    refine JC.rs ?_
    refine Seq.p rfl Ev.move ?_
    refine Seq.p rfl (Ev.lenH sl.sl_uint8) ?_
    refine Seq.p rfl Ev.eq ?_
    refine Seq.nil ?_
    first | refine JC.c (ht := fun c40 => ?_) (hf := fun c40 => ?_) | refine JC.cb (ht := fun c40 => ?_) (hf := fun c40 => ?_)
    · -- then_t40
      have hj1 : j = 1 := by
        rw [← bytes_len] at c40
        split at hll <;> omega
      subst hj1
      have hb3 : (L ++ [d] ++ [46]).length ≤ 42 := by rw [← bytes_len, ← bytes_len]; omega
      have hb2 : (L ++ [d]).length ≤ 42 := by rw [← bytes_len]; omega
      have hdl2 : L ++ [d] ++ [46] = dl n 2 := by rw [dl_two, hL, hd, hae]
      refine JC.rs ?_
      refine Seq.p rfl Ev.move ?_
      refine Seq.buildSlN [_] (hsl := sl.sl_uint8) (hz := z.uint8) (k := ?_); intro b42
      refine Seq.append (hsl := sl.sl_uint8) (he := el.uint8) (hsrc := fun w' hw => Src.box (news := byteEnc 46) (j := 1) sl.sl_uint8 At.z hw rfl (fun q u hu => hu)) (k := ?_); intro A43 c43
      rw [bytes_len (l := (L ++ [d])) (d := 46), bytes_flat (l := (L ++ [d])) (d := 46)]
      refine Seq.p rfl Ev.assign ?_
      refine Seq.nil ?_
      refine JC.rs ?_
      refine Seq.p rfl Ev.move ?_
      refine Seq.p rfl Ev.move ?_
      refine Seq.p rfl (Ev.toN (b := Z2) (Ev.orN (a := a / 10 / 18446744073709551616) (b := a / 10 % 18446744073709551616)) hZe2) ?_
      refine Seq.p rfl Ev.eq ?_
      refine Seq.nil ?_
      first | refine JC.c (ht := fun c47 => ?_) (hf := fun c47 => ?_) | refine JC.cb (ht := fun c47 => ?_) (hf := fun c47 => ?_)
      · -- then_t47
        have ha0 : a / 10 = 0 := hZ2.1 (by omega)
        have hn2 : n / 10 ^ 2 = 0 := by rw [← ha0, hdiv]
        have hn3 : n / 10 ^ 3 = a / 10 := by rw [ha0, Nat.pow_succ, ← Nat.div_div_eq_div_mul, hn2]
        have hdl3 : L ++ [d] ++ [46] ++ [48] = dl n 3 := by rw [dl_high (n := n) (j := 2) (by decide), hn2, hdl2]; rfl
        refine JC.reg ?_
        refine Seq.p rfl Ev.move ?_
        refine Seq.buildSlN [_] (hsl := sl.sl_uint8) (hz := z.uint8) (k := ?_); intro b49
        refine Seq.append (hsl := sl.sl_uint8) (he := el.uint8) (hsrc := fun w' hw => Src.box (news := byteEnc 48) (j := 1) sl.sl_uint8 At.z hw rfl (fun q u hu => hu)) (k := ?_); intro A50 c50
        rw [bytes_len (l := (L ++ [d] ++ [46])) (d := 48), bytes_flat (l := (L ++ [d] ++ [46])) (d := 48)]
        refine Seq.p rfl Ev.assign ?_
        refine Seq.nil ?_
        first
          | exact ⟨3, [bytesL (.slice A50 (L ++ [d] ++ [46] ++ [48]).length c50) (L ++ [d] ++ [46] ++ [48]), .box b1 37 (mon n)], (by repeat (first | exact Part.nil _ | refine Part.at (by repeat (first | exact At.z | apply At.s)) ?_)), ⟨A50, c50, by rw [← hdl3, hn3]; exact Has.mk (by repeat (first | refine Off.upd ?_ rfl | exact Off.mix | refine Off.mix2 ?_ rfl | exact Off.refl)) (allLook_cons (by repeat (first | exact Look.here | apply Look.there (hne := rfl) | exact Look.const | apply Look.mix rfl | exact Look.arg0 | apply Look.args | exact Look.func)) (allLook_cons (by repeat (first | exact Look.here | apply Look.there (hne := rfl) | exact Look.const | apply Look.mix rfl | exact Look.arg0 | apply Look.args | exact Look.func)) (allLook_cons (by repeat (first | exact Look.here | apply Look.there (hne := rfl) | exact Look.const | apply Look.mix rfl | exact Look.arg0 | apply Look.args | exact Look.func)) allLook_nil))), by rw [hdl3], fun h => absurd h (by decide), .inl (by decide), by decide⟩, by decide⟩
          | exact ⟨2, [bytesL (.slice A43 (L ++ [d] ++ [46]).length c43) (L ++ [d] ++ [46]), .box b1 37 (mon n)], (by repeat (first | exact Part.nil _ | refine Part.at (by repeat (first | exact At.z | apply At.s)) ?_)), ⟨A43, c43, by rw [← hdl2, ← hdiv]; exact Has.mk (by repeat (first | refine Off.upd ?_ rfl | exact Off.mix | refine Off.mix2 ?_ rfl | exact Off.refl)) (allLook_cons (by repeat (first | exact Look.here | apply Look.there (hne := rfl) | exact Look.const | apply Look.mix rfl | exact Look.arg0 | apply Look.args | exact Look.func)) (allLook_cons (by repeat (first | exact Look.here | apply Look.there (hne := rfl) | exact Look.const | apply Look.mix rfl | exact Look.arg0 | apply Look.args | exact Look.func)) (allLook_cons (by repeat (first | exact Look.here | apply Look.there (hne := rfl) | exact Look.const | apply Look.mix rfl | exact Look.arg0 | apply Look.args | exact Look.func)) allLook_nil))), by rw [hdl2], fun _ => by rw [← hdiv]; exact ha0, .inl (by decide), by decide⟩, by decide⟩
          | exact ⟨j + 1, [bytesL (.slice A37 (L ++ [d]).length c37) (L ++ [d]), .box b1 37 (mon n)], (by repeat (first | exact Part.nil _ | refine Part.at (by repeat (first | exact At.z | apply At.s)) ?_)), ⟨A37, c37, by rw [← hdl, ← hdiv]; exact Has.mk (by repeat (first | refine Off.upd ?_ rfl | exact Off.mix | refine Off.mix2 ?_ rfl | exact Off.refl)) (allLook_cons (by repeat (first | exact Look.here | apply Look.there (hne := rfl) | exact Look.const | apply Look.mix rfl | exact Look.arg0 | apply Look.args | exact Look.func)) (allLook_cons (by repeat (first | exact Look.here | apply Look.there (hne := rfl) | exact Look.const | apply Look.mix rfl | exact Look.arg0 | apply Look.args | exact Look.func)) (allLook_cons (by repeat (first | exact Look.here | apply Look.there (hne := rfl) | exact Look.const | apply Look.mix rfl | exact Look.arg0 | apply Look.args | exact Look.func)) allLook_nil))), by rw [hdl], fun h => absurd h (by omega), hnx3, hk2⟩, by omega⟩
      · -- else_t47
        have ha0 : a / 10 ≠ 0 := fun h => c47 (by rw [hZ2.2 h]; rfl)
        refine JC.skip ?_
        first
          | exact ⟨3, [bytesL (.slice A50 (L ++ [d] ++ [46] ++ [48]).length c50) (L ++ [d] ++ [46] ++ [48]), .box b1 37 (mon n)], (by repeat (first | exact Part.nil _ | refine Part.at (by repeat (first | exact At.z | apply At.s)) ?_)), ⟨A50, c50, by rw [← hdl3, hn3]; exact Has.mk (by repeat (first | refine Off.upd ?_ rfl | exact Off.mix | refine Off.mix2 ?_ rfl | exact Off.refl)) (allLook_cons (by repeat (first | exact Look.here | apply Look.there (hne := rfl) | exact Look.const | apply Look.mix rfl | exact Look.arg0 | apply Look.args | exact Look.func)) (allLook_cons (by repeat (first | exact Look.here | apply Look.there (hne := rfl) | exact Look.const | apply Look.mix rfl | exact Look.arg0 | apply Look.args | exact Look.func)) (allLook_cons (by repeat (first | exact Look.here | apply Look.there (hne := rfl) | exact Look.const | apply Look.mix rfl | exact Look.arg0 | apply Look.args | exact Look.func)) allLook_nil))), by rw [hdl3], fun h => absurd h (by decide), .inl (by decide), by decide⟩, by decide⟩
          | exact ⟨2, [bytesL (.slice A43 (L ++ [d] ++ [46]).length c43) (L ++ [d] ++ [46]), .box b1 37 (mon n)], (by repeat (first | exact Part.nil _ | refine Part.at (by repeat (first | exact At.z | apply At.s)) ?_)), ⟨A43, c43, by rw [← hdl2, ← hdiv]; exact Has.mk (by repeat (first | refine Off.upd ?_ rfl | exact Off.mix | refine Off.mix2 ?_ rfl | exact Off.refl)) (allLook_cons (by repeat (first | exact Look.here | apply Look.there (hne := rfl) | exact Look.const | apply Look.mix rfl | exact Look.arg0 | apply Look.args | exact Look.func)) (allLook_cons (by repeat (first | exact Look.here | apply Look.there (hne := rfl) | exact Look.const | apply Look.mix rfl | exact Look.arg0 | apply Look.args | exact Look.func)) (allLook_cons (by repeat (first | exact Look.here | apply Look.there (hne := rfl) | exact Look.const | apply Look.mix rfl | exact Look.arg0 | apply Look.args | exact Look.func)) allLook_nil))), by rw [hdl2], fun _ => by rw [← hdiv]; exact ha0, .inl (by decide), by decide⟩, by decide⟩
          | exact ⟨j + 1, [bytesL (.slice A37 (L ++ [d]).length c37) (L ++ [d]), .box b1 37 (mon n)], (by repeat (first | exact Part.nil _ | refine Part.at (by repeat (first | exact At.z | apply At.s)) ?_)), ⟨A37, c37, by rw [← hdl, ← hdiv]; exact Has.mk (by repeat (first | refine Off.upd ?_ rfl | exact Off.mix | refine Off.mix2 ?_ rfl | exact Off.refl)) (allLook_cons (by repeat (first | exact Look.here | apply Look.there (hne := rfl) | exact Look.const | apply Look.mix rfl | exact Look.arg0 | apply Look.args | exact Look.func)) (allLook_cons (by repeat (first | exact Look.here | apply Look.there (hne := rfl) | exact Look.const | apply Look.mix rfl | exact Look.arg0 | apply Look.args | exact Look.func)) (allLook_cons (by repeat (first | exact Look.here | apply Look.there (hne := rfl) | exact Look.const | apply Look.mix rfl | exact Look.arg0 | apply Look.args | exact Look.func)) allLook_nil))), by rw [hdl], fun h => absurd h (by omega), hnx3, hk2⟩, by omega⟩
    · -- else_t40
      have hj1 : j ≠ 1 := by
        intro h
        rw [← bytes_len] at c40
        split at hll <;> omega
      have hdl : L ++ [d] = dl n (j + 1) := by
        rcases Nat.lt_or_ge j 1 with h | h
        · exact (hlow h).symm
        · exact (hhigh (by omega)).symm
      have hnx3 : j + 1 ≤ 3 ∨ n / 10 ^ (j + 1 - 1) ≠ 0 := by
        rcases Nat.lt_or_ge j 2 with h | h
        · left; omega
        · right
          rw [Nat.add_sub_cancel, ← hae]
          omega
      refine JC.skip ?_
      first
        | exact ⟨3, [bytesL (.slice A50 (L ++ [d] ++ [46] ++ [48]).length c50) (L ++ [d] ++ [46] ++ [48]), .box b1 37 (mon n)], (by repeat (first | exact Part.nil _ | refine Part.at (by repeat (first | exact At.z | apply At.s)) ?_)), ⟨A50, c50, by rw [← hdl3, hn3]; exact Has.mk (by repeat (first | refine Off.upd ?_ rfl | exact Off.mix | refine Off.mix2 ?_ rfl | exact Off.refl)) (allLook_cons (by repeat (first | exact Look.here | apply Look.there (hne := rfl) | exact Look.const | apply Look.mix rfl | exact Look.arg0 | apply Look.args | exact Look.func)) (allLook_cons (by repeat (first | exact Look.here | apply Look.there (hne := rfl) | exact Look.const | apply Look.mix rfl | exact Look.arg0 | apply Look.args | exact Look.func)) (allLook_cons (by repeat (first | exact Look.here | apply Look.there (hne := rfl) | exact Look.const | apply Look.mix rfl | exact Look.arg0 | apply Look.args | exact Look.func)) allLook_nil))), by rw [hdl3], fun h => absurd h (by decide), .inl (by decide), by decide⟩, by decide⟩
        | exact ⟨2, [bytesL (.slice A43 (L ++ [d] ++ [46]).length c43) (L ++ [d] ++ [46]), .box b1 37 (mon n)], (by repeat (first | exact Part.nil _ | refine Part.at (by repeat (first | exact At.z | apply At.s)) ?_)), ⟨A43, c43, by rw [← hdl2, ← hdiv]; exact Has.mk (by repeat (first | refine Off.upd ?_ rfl | exact Off.mix | refine Off.mix2 ?_ rfl | exact Off.refl)) (allLook_cons (by repeat (first | exact Look.here | apply Look.there (hne := rfl) | exact Look.const | apply Look.mix rfl | exact Look.arg0 | apply Look.args | exact Look.func)) (allLook_cons (by repeat (first | exact Look.here | apply Look.there (hne := rfl) | exact Look.const | apply Look.mix rfl | exact Look.arg0 | apply Look.args | exact Look.func)) (allLook_cons (by repeat (first | exact Look.here | apply Look.there (hne := rfl) | exact Look.const | apply Look.mix rfl | exact Look.arg0 | apply Look.args | exact Look.func)) allLook_nil))), by rw [hdl2], fun _ => by rw [← hdiv]; exact ha0, .inl (by decide), by decide⟩, by decide⟩
        | exact ⟨j + 1, [bytesL (.slice A37 (L ++ [d]).length c37) (L ++ [d]), .box b1 37 (mon n)], (by repeat (first | exact Part.nil _ | refine Part.at (by repeat (first | exact At.z | apply At.s)) ?_)), ⟨A37, c37, by rw [← hdl, ← hdiv]; exact Has.mk (by repeat (first | refine Off.upd ?_ rfl | exact Off.mix | refine Off.mix2 ?_ rfl | exact Off.refl)) (allLook_cons (by repeat (first | exact Look.here | apply Look.there (hne := rfl) | exact Look.const | apply Look.mix rfl | exact Look.arg0 | apply Look.args | exact Look.func)) (allLook_cons (by repeat (first | exact Look.here | apply Look.there (hne := rfl) | exact Look.const | apply Look.mix rfl | exact Look.arg0 | apply Look.args | exact Look.func)) (allLook_cons (by repeat (first | exact Look.here | apply Look.there (hne := rfl) | exact Look.const | apply Look.mix rfl | exact Look.arg0 | apply Look.args | exact Look.func)) allLook_nil))), by rw [hdl], fun h => absurd h (by omega), hnx3, hk2⟩, by omega⟩
  · -- else_t21
    simp only [Bool.or_eq_false_iff, decide_eq_false_iff_not, Classical.not_not] at c21
    have ha0 : a = 0 := hZ.1 (by omega)
    have hj4 : 3 ≤ j := by
      have h1 : j ≠ 2 := fun h => by subst h; exact hj2 rfl (by rw [← hae]; exact ha0)
      split at hll <;> omega
    have hke : j = kF n := kF_unique (by rw [← hae]; exact ha0) hj4 (by omega)
    have htx : L.reverse = textL n := by rw [hL, hke]; exact dl_text n
    have hL0 : L.reverse ≠ [] := fun h => by
      have h1 : L.length = 0 := by rw [← List.length_reverse, h]; rfl
      split at hll <;> omega
    refine JC.exit ?_ -- 0
    refine JC.seq ?_
    refine JC.rs ?_
    refine Seq.p rfl (Ev.fa fd.num_Money_2) ?_
    refine Seq.p rfl (Ev.ldB sc.bool) ?_
    refine Seq.nil ?_
    first | refine JC.c (ht := fun c52 => ?_) (hf := fun c52 => ?_) | refine JC.cb (ht := fun c52 => ?_) (hf := fun c52 => ?_)
    · -- then_t52
      cases c52
    · -- else_t52
      refine JC.skip ?_
      refine JC.rs ?_
      refine Seq.alloc (cs := [_, _]) (hz := z.strings_Builder) (k := ?_); intro b7
      refine Seq.nil ?_
      refine JC.re (fun w h => Upd.part (H' := [.box b7 90 [.pointer none, .slice none 0 0], .own 5 1 (.slice none 0 0) 0 [], bytesL (.slice A L.length c) L]) (Upd.nilOwn h 5 1) (by repeat (first | exact Part.nil _ | refine Part.at (by repeat (first | exact At.z | apply At.s)) ?_))) ?_
      refine JC.seq ?_
      refine JC.rs ?_
      refine Seq.p rfl Ev.move ?_
      refine Seq.p rfl (Ev.lenH sl.sl_uint8) ?_
      refine Seq.p rfl Ev.move ?_
      refine Seq.nil ?_
      refine JC.blk ?_
      refine JC.loop (α := Nat) (I := fun i e1 H1 => ∃ p A2 c2, Has [8, 58, 59, 60, 61, 62, 63, 64, 65, 66, 67, 68, 69, 70] [(58, .int .i64 (i : Int))] _ e1 ∧ H1 = [.box b7 90 [.pointer p, .slice A2 (L.reverse.take i).length c2], bytesL (.slice A2 (L.reverse.take i).length c2) (L.reverse.take i), bytesL (.slice A L.length c) L] ∧ (p = none ∨ p = some ⟨b7, 0, none⟩) ∧ i ≤ L.length) (μ := fun i => 50 - i) 0 ⟨none, none, 0, Has.mk Off.refl (allLook_cons (by repeat (first | exact Look.here | apply Look.there (hne := rfl) | exact Look.const | apply Look.mix rfl | exact Look.arg0 | apply Look.args | exact Look.func)) allLook_nil), rfl, .inl rfl, Nat.zero_le _⟩ ?_
      rintro i _ _ ⟨p, A2, c2, ⟨u, rfl⟩, rfl, hp, hi⟩; dsimp only [setL]
      have htl : (L.reverse.take i).length = i := by rw [List.length_take, List.length_reverse]; omega
      refine JC.rs ?_
      refine Seq.p rfl Ev.lt ?_
      refine Seq.nil ?_
      refine JC.seq ?_
      first | refine JC.c (ht := fun c59 => ?_) (hf := fun c59 => ?_) | refine JC.cb (ht := fun c59 => ?_) (hf := fun c59 => ?_)
      · -- then_t59
        refine JC.skip ?_
        refine JC.seq ?_
        refine JC.blk ?_
        refine JC.rs ?_
        refine Seq.p rfl Ev.move ?_
        refine Seq.p rfl Ev.assign ?_
        refine Seq.nil ?_
        refine JC.reg ?_
        refine Seq.p rfl Ev.move ?_
        refine Seq.p rfl Ev.move ?_
        refine Seq.p rfl (Ev.lenH sl.sl_uint8) ?_
        refine Seq.p rfl Ev.sub ?_
        refine Seq.p rfl Ev.move ?_
        refine Seq.p rfl (Ev.asR (v' := .int .i64 ((L.length - 1 - i : Nat) : Int)) Ev.sub (by congr 1; omega)) ?_
        refine Seq.p rfl (Ev.iaN sl.sl_uint8 (i := L.length - 1 - i) (hr := RAt.own (enc := byteEnc) (v := .slice A L.length c) (xs := L) (hs := by omega))) ?_
        refine Seq.p rfl (Ev.ldE1 sc.uint8 (i := L.length - 1 - i) (hr := RAt.own (enc := byteEnc) (v := .slice A L.length c) (xs := L) (hs := by omega))) ?_
        refine Seq.call rfl (fun w' hw => builderByte (l := L.reverse.take i) (c := L[L.length - 1 - i]!) hp (by rw [htl]; omega) (hw.part (Part.here (Part.here (Part.nil _)))).own) (Gs := [_, _]) (F := [bytesL (.slice A L.length c) L]) (by exact List.Perm.refl _) ?_
        rintro u H' ⟨A3, c3, rfl, rfl⟩
        simp only [List.cons_append, List.nil_append]
        refine Seq.nil ?_
        refine JC.reg ?_
        refine Seq.p rfl (by first | exact Ev.inc | exact Ev.add) ?_
        refine Seq.p rfl Ev.move ?_
        refine Seq.nil ?_
        exact ⟨i + 1, _, Part.refl _, ⟨some ⟨b7, 0, none⟩, A3, c3, Has.mk (by repeat (first | refine Off.upd ?_ rfl | exact Off.mix | refine Off.mix2 ?_ rfl | exact Off.refl)) (allLook_cons (by repeat (first | exact Look.here | apply Look.there (hne := rfl) | exact Look.const | apply Look.mix rfl | exact Look.arg0 | apply Look.args | exact Look.func)) allLook_nil), by rw [rev_take (by omega)], .inr rfl, by omega⟩, by omega⟩
      · -- else_t59
        obtain rfl : i = L.length := by omega
        refine JC.exit ?_ -- 2
        refine JC.rs ?_
        refine Seq.call rfl (fun w' hw => builderString (l := L.reverse.take L.length) (by rw [List.take_of_length_le (by simp)]; exact hL0) (hw.part (Part.here (Part.here (Part.nil _)))).own) (Gs := [_, _]) (F := [bytesL (.slice A L.length c) L]) (by exact List.Perm.refl _) ?_
        rintro u H' rfl
        refine Seq.p rfl Ev.assign ?_
        refine Seq.nil ?_
        refine JC.ret ?_
        show retQ _ _ _ _ _ _ _ _
        refine ret1 (hp := Part.nil _) (hpost := ?_)
        rw [List.take_of_length_le (by simp), htx]
end Go.Rx
/- The law ConsoleStats gives true. -/
namespace Go.Rx
open Go Go.RowKit
set_option linter.unusedVariables false
set_option linter.unusedSimpArgs false
structure Pce where
  v : Value
  es : List Event
instance : Inhabited Pce := ⟨⟨.slice none 0 0, []⟩⟩
def Pce.enc (p : Pce) : List Value := [p.v]
def allE (ps : List Pce) (i : Nat) : List Event := (ps.take i).flatMap Pce.es
theorem allE_zero (ps : List Pce) : allE ps 0 = [] := by unfold allE; rw [List.take_zero]; rfl
theorem allE_succ {ps : List Pce} {i : Nat} (h : i < ps.length) : allE ps (i + 1) = allE ps i ++ ps[i]!.es := by
  unfold allE
  rw [List.take_add_one, List.flatMap_append, getElem!_pos ps i h, List.getElem?_eq_getElem h]
  simp
theorem allE_len (ps : List Pce) (i : Nat) : (allE ps i).length ≤ (ps.map fun p => p.es.length).sum := by
  have h : (ps.flatMap Pce.es).length = (ps.map fun p => p.es.length).sum := by rw [List.length_flatMap]
  rw [← h]
  have h2 : ps.flatMap Pce.es = allE ps i ++ (ps.drop i).flatMap Pce.es := by unfold allE; rw [← List.flatMap_append, List.take_append_drop]
  rw [h2, List.length_append]
  omega
theorem allE_good {ps : List Pce} (h : ∀ p ∈ ps, goodQ p.es) (i : Nat) : goodQ (allE ps i) := by
  intro e he
  obtain ⟨p, hp, hpe⟩ := List.mem_flatMap.1 he
  exact h p (List.mem_of_mem_take hp) e hpe
theorem trE_append (l m : List Event) : trE (l ++ m) = trE l ++ trE m := List.filter_append ..
theorem trE_good {l : List Event} (h : goodQ l) : goodQ (trE l) := fun e he => h e (List.mem_filter.1 he).1
abbrev evL (v : Value) (l : List Event) : Chunk := .own 45 13 v l.length (l.flatMap Event.enc)
def evM : Event := ⟨0, 3, 0, 0, 0, 0, 0, 0, 7, 7, 0, 0, 0⟩
def barM : Bar := ⟨5, 0, 0, 0, 0, 0⟩
def rpl {α : Type} (m : α) (l : List α) (j : Nat) : List α := List.replicate j m ++ l.drop j
theorem rpl_len {α : Type} {m : α} {l : List α} {j : Nat} (h : j ≤ l.length) : (rpl m l j).length = l.length := by
  unfold rpl; rw [List.length_append, List.length_replicate, List.length_drop]; omega
theorem rpl_get {α : Type} [Inhabited α] {m : α} {l : List α} {j : Nat} (h : j < l.length) : (rpl m l j)[j]! = l[j]! := by
  rw [getElem!_pos _ j (by rw [rpl_len (by omega)]; exact h), getElem!_pos l j h]
  unfold rpl
  rw [List.getElem_append_right (by simp)]
  simp
theorem rpl_set {α : Type} {m : α} {l : List α} {j : Nat} (h : j < l.length) : (rpl m l j).set j m = rpl m l (j + 1) := by
  unfold rpl
  rw [List.set_append_right _ _ (by simp), List.length_replicate, Nat.sub_self, List.drop_eq_getElem_cons h, List.set_cons_zero, List.replicate_succ', List.append_assoc]
  rfl
theorem barOne : ∀ (x : Bar), ∀ u ∈ x.enc, u.oneCell' = true := by
  intro x u hu
  simp [Bar.enc] at hu
  rcases hu with rfl | rfl | rfl | rfl | rfl | rfl <;> rfl
set_option maxHeartbeats 4000000 in
set_option maxRecDepth 100000 in
theorem lawStats {w : World} {v : Value} {ps : List Pce} {each : Int} (he : RSl Pce.enc 1 w [] v ps) (hps : ∀ p ∈ ps, RSl Event.enc 13 w [] p.v p.es ∧ goodQ p.es) (hsum : (ps.map fun p => p.es.length).sum ≤ 1048576) (hea : each ≤ 9223372036854775807) :
    Spec Go.Proofs.Try.prog 4 #[v, .int .i64 each] w [] (fun u _ => u = .bool true) := by
  have hs := he.small
  have hgE := allE_good (ps := ps) (fun p hp => (hps p hp).2)
  have hlE := fun i => Nat.le_trans (allE_len ps i) hsum
  refine Spec.enter (fn := Go.Proofs.Try.f4) (n := 132) [v, .int .i64 each] Go.Proofs.Try.func4 (by kernel_rfl) rfl Go.Proofs.Try.ntmps4 Go.Proofs.Try.results4 rfl (Own.nil _) ?_
  refine JC.rs ?_
  refine Seq.p rfl Ev.assign ?_
  refine Seq.nil ?_
  refine JC.rs ?_
  refine Seq.call rfl (fun w hw => statsNew) (F := _) (by exact List.Perm.refl _) ?_
  rintro _ _ ⟨b18, rfl, rfl⟩
  simp only [List.cons_append, List.nil_append]
  refine Seq.p rfl Ev.assign ?_
  refine Seq.nil ?_
  refine JC.seq ?_
  refine JC.rs ?_
  refine Seq.p rfl Ev.move ?_
  refine Seq.p rfl (Ev.eqNilP und.p_console_Stats) ?_
  refine Seq.nil ?_
  first | refine JC.c (ht := fun c20 => ?_) (hf := fun c20 => ?_) | refine JC.cb (ht := fun c20 => ?_) (hf := fun c20 => ?_)
  · -- then_t20
    cases c20
  · -- else_t20
    refine JC.skip ?_
    refine JC.rs ?_
    refine Seq.buildSl (cs := []) (hsl := sl.sl_api_Event) (hz := z.api_Event) (hcs := rfl) (k := ?_); intro b21
    refine Seq.re (fun w h => Upd.boxOwn h (n := 0) (size := 13) At.z rfl (by omega)) ?_
    refine Seq.p rfl Ev.assign ?_
    refine Seq.nil ?_
    refine JC.seq ?_
    refine JC.rs ?_
    refine Seq.p rfl Ev.assign ?_
    refine Seq.nil ?_
    refine JC.blk ?_
    refine JC.loop (α := Nat) (I := fun i e1 H1 => ∃ A6 c6 A c, Has [4, 6, 7, 8, 9, 22, 23, 24, 25, 26, 27, 28, 29, 30, 31, 32, 33, 34, 35, 36, 37, 38, 39, 40, 41, 42, 43, 44, 45, 46, 47, 48, 49, 50, 51, 52, 53, 54, 55, 56, 57, 58, 59, 60, 61, 62, 63, 64, 65, 66, 67, 68, 69, 70] [(6, .slice A6 (trE (allE ps i)).length c6), (7, .int .i64 (i : Int))] _ e1 ∧ H1 = [evL (.slice A6 (trE (allE ps i)).length c6) (trE (allE ps i)), statsC b18 (.slice A (tradesF (allE ps i)).length c), trdC (.slice A (tradesF (allE ps i)).length c) (tradesF (allE ps i))] ∧ i ≤ ps.length) (μ := fun i => ps.length - i) 0 ⟨some ⟨b21, 0, none⟩, 0, none, 0, by rw [allE_zero]; exact Has.mk Off.refl (allLook_cons (by repeat (first | exact Look.here | apply Look.there (hne := rfl) | exact Look.const | apply Look.mix rfl | exact Look.arg0 | apply Look.args | exact Look.func)) (allLook_cons (by repeat (first | exact Look.here | apply Look.there (hne := rfl) | exact Look.const | apply Look.mix rfl | exact Look.arg0 | apply Look.args | exact Look.func)) allLook_nil)), by rw [allE_zero]; rfl, Nat.zero_le _⟩ ?_
    rintro i _ _ ⟨A6, c6, A, c, ⟨u, rfl⟩, rfl, hi⟩; dsimp only [setL]
    refine JC.seq ?_
    refine JC.rs ?_
    refine Seq.p rfl Ev.move ?_
    refine Seq.p rfl Ev.move ?_
    refine Seq.p rfl (Ev.lenSl sl.sl_sl_api_Event (hr := he.r)) ?_
    refine Seq.p rfl Ev.lt ?_
    refine Seq.nil ?_
    first | refine JC.c (ht := fun c25 => ?_) (hf := fun c25 => ?_) | refine JC.cb (ht := fun c25 => ?_) (hf := fun c25 => ?_)
    · -- then_t25
      have hi2 : i < ps.length := by omega
      have hmem : ps[i]! ∈ ps := by rw [getElem!_pos ps i hi2]; exact List.getElem_mem hi2
      obtain ⟨hp, hpq⟩ := hps _ hmem
      have hE1 := allE_succ hi2
      have hl1 := hlE i
      have hl2 := hlE (i + 1)
      have hg2 := hgE (i + 1)
      obtain ⟨X, hX⟩ : ∃ X, X = allE ps i := ⟨_, rfl⟩
      obtain ⟨X2, hX2⟩ : ∃ X, X = allE ps (i + 1) := ⟨_, rfl⟩
      rw [← hX, ← hX2] at hE1
      rw [← hX] at hl1 ⊢
      rw [← hX2] at hl2 hg2
      have ht1 := tradesF_len X
      have ht2 := trE_len X
      have ht3 := tradesF_len X2
      have ht4 := trE_len X2
      have hT2 : tradesF X ++ tradesF ps[i]!.es = tradesF X2 := by rw [hE1, tradesF_append]
      have hR2 : trE X ++ trE ps[i]!.es = trE X2 := by rw [hE1, trE_append]
      have hx2 : X2.length = X.length + ps[i]!.es.length := by rw [hE1, List.length_append]
      have ht5 := trE_len ps[i]!.es
      refine JC.skip ?_
      refine JC.seq ?_
      refine JC.blk ?_
      refine JC.rs ?_
      refine Seq.buildSl (cs := []) (hsl := sl.sl_api_Event) (hz := z.api_Event) (hcs := rfl) (k := ?_); intro b28
      refine Seq.re (fun w h => Upd.boxOwn h (n := 0) (size := 13) At.z rfl (by omega)) ?_
      refine Seq.p rfl Ev.move ?_
      refine Seq.p rfl Ev.move ?_
      refine Seq.p rfl (Ev.iaN sl.sl_sl_api_Event (hr := he.r)) ?_
      refine Seq.p rfl (Ev.ldE1 sc.sl_api_Event (hr := he.r)) ?_
      refine Seq.append (j := ps[i]!.es.length) (hsl := sl.sl_api_Event) (he := el.api_Event) (hH := At.z) (hsrc := fun w' hw => Src.rsl sl.sl_api_Event (hp.up hw) (by omega) evOne) (k := ?_); intro A33 c33
      rw [Nat.zero_add ps[i]!.es.length, List.nil_append]
      refine Seq.p rfl Ev.assign ?_
      refine Seq.nil ?_
      refine JC.rs ?_
      refine Seq.p rfl Ev.move ?_
      refine Seq.p rfl Ev.move ?_
      refine Seq.call rfl (fun w' hw => statsAdd (l := tradesF X) (bs := b18) (A := A) (c := c) (es := ps[i]!.es) (hw.part (by repeat (first | exact Part.nil _ | refine Part.at (by repeat (first | exact At.z | apply At.s)) ?_))).own ((RSl.owned (enc := Event.enc) (xs := ps[i]!.es) At.z hw rfl rfl (fun _ => rfl) (by omega)).part (by repeat (first | exact Part.nil _ | refine Part.at (by repeat (first | exact At.z | apply At.s)) ?_))) (by omega) hpq) (Gs := [statsC b18 (.slice A (tradesF X).length c), trdC (.slice A (tradesF X).length c) (tradesF X)]) (F := [_, _]) (by exact (List.perm_append_comm (l₁ := [_, _]) (l₂ := [_, _]))) ?_
      rintro _ _ ⟨A36, c36, rfl⟩
      rw [hT2]
      simp only [List.cons_append, List.nil_append]
      refine Seq.nil ?_
      refine JC.seq ?_
      refine JC.rs ?_
      refine Seq.p rfl Ev.assign ?_
      refine Seq.nil ?_
      refine JC.blk ?_
      refine JC.loop (α := Nat) (I := fun j e1 H1 => Has [4, 9, 37, 38, 39, 40, 41, 42, 43, 44, 45, 46, 47, 48, 49, 50, 51, 52, 53, 54, 55, 56, 57, 58] [(9, .int .i64 (j : Int))] _ e1 ∧ H1 = [statsC b18 (.slice A36 (tradesF X2).length c36), trdC (.slice A36 (tradesF X2).length c36) (tradesF X2), .own 45 13 (.slice A33 ps[i]!.es.length c33) (rpl evM ps[i]!.es j).length ((rpl evM ps[i]!.es j).flatMap Event.enc), evL (.slice A6 (trE X).length c6) (trE X)] ∧ j ≤ ps[i]!.es.length) (μ := fun j => ps[i]!.es.length - j) 0 ⟨Has.mk Off.refl (allLook_cons (by repeat (first | exact Look.here | apply Look.there (hne := rfl) | exact Look.const | apply Look.mix rfl | exact Look.arg0 | apply Look.args | exact Look.func)) allLook_nil), rfl, Nat.zero_le _⟩ ?_
      rintro j _ _ ⟨⟨u, rfl⟩, rfl, hj⟩; dsimp only [setL]
      have hrl := rpl_len (m := evM) hj
      refine JC.seq ?_
      refine JC.rs ?_
      refine Seq.p rfl Ev.move ?_
      refine Seq.p rfl Ev.move ?_
      refine Seq.p rfl (Ev.lenH sl.sl_api_Event) ?_
      refine Seq.p rfl Ev.lt ?_
      refine Seq.nil ?_
      first | refine JC.c (ht := fun c40 => ?_) (hf := fun c40 => ?_) | refine JC.cb (ht := fun c40 => ?_) (hf := fun c40 => ?_)
      · -- then_t40
        have hj2 : j < ps[i]!.es.length := by omega
        have hrg := rpl_get (m := evM) hj2
        refine JC.skip ?_
        refine JC.seq ?_
        refine JC.blk ?_
        refine JC.seq ?_
        refine JC.qs mixed (by kernel_rfl) ?_
        refine Qui.p rfl Ev.move ?_
        refine Qui.p rfl Ev.move ?_
        refine Qui.p rfl (Ev.iaN sl.sl_api_Event (i := j) (hr := RAt.own (enc := Event.enc) (v := .slice A33 ps[i]!.es.length c33) (xs := rpl evM ps[i]!.es j) (hs := by omega)) (hi := by omega)) ?_
        refine Qui.p rfl (Ev.as (v := .agg ((rpl evM ps[i]!.es j)[j]!).enc.toArray) (v' := .agg ps[i]!.es[j]!.enc.toArray) (by rw [hrg]) (Ev.ldEA ag.api_Event (i := j) (hr := RAt.own (enc := Event.enc) (v := .slice A33 ps[i]!.es.length c33) (xs := rpl evM ps[i]!.es j) (hs := by omega)) (hi := by omega))) ?_
        refine Qui.p rfl Ev.move ?_
        refine Qui.p rfl Ev.move ?_
        refine Qui.p rfl (Ev.iaN sl.sl_sl_api_Event (hr := he.r)) ?_
        refine Qui.p rfl (Ev.ldE1 sc.sl_api_Event (hr := he.r)) ?_
        refine Qui.p rfl Ev.move ?_
        refine Qui.p rfl (Ev.iaN sl.sl_api_Event (hr := hp.r)) ?_
        refine Qui.p rfl (Ev.ldEA ag.api_Event (hr := hp.r)) ?_
        refine Qui.p rfl (Ev.as (v' := .bool false) (by rw [Event.eqL_enc]; simp) (Ev.neAg (xs := ps[i]!.es[j]!.enc) (ys := ps[i]!.es[j]!.enc) so.api_Event ag.api_Event gd.api_Event)) ?_
        refine Qui.nil ?_
        first | refine JC.c (ht := fun c54 => ?_) (hf := fun c54 => ?_) | refine JC.cb (ht := fun c54 => ?_) (hf := fun c54 => ?_)
        · -- then_t54
          cases c54
        · -- else_t54
          refine JC.skip ?_
          refine JC.reg ?_
          refine Seq.p rfl Ev.move ?_
          refine Seq.p rfl Ev.move ?_
          refine Seq.p rfl (Ev.buildN [_, _, _, _, _, _, _, _, _, _, _, _, _] pl.api_Event z.api_Event) ?_
          refine Seq.p rfl (Ev.iaN sl.sl_api_Event (i := j) (hr := RAt.own (enc := Event.enc) (v := .slice A33 ps[i]!.es.length c33) (xs := rpl evM ps[i]!.es j) (hs := by omega)) (hi := by omega)) ?_
          refine Seq.stOwn (enc := Event.enc) (xs := rpl evM ps[i]!.es j) (q := j) evM sz.api_Event (by decide) (h1 := evOne) (k := ?_)
          refine Seq.nil ?_
          refine JC.reg ?_
          refine Seq.p rfl Ev.move ?_
          refine Seq.p rfl (by first | exact Ev.inc | exact Ev.add) ?_
          refine Seq.p rfl Ev.assign ?_
          refine Seq.nil ?_
          exact ⟨j + 1, _, Part.refl _, ⟨Has.mk (by repeat (first | refine Off.upd ?_ rfl | exact Off.mix | refine Off.mix2 ?_ rfl | exact Off.refl)) (allLook_cons (by repeat (first | exact Look.here | apply Look.there (hne := rfl) | exact Look.const | apply Look.mix rfl | exact Look.arg0 | apply Look.args | exact Look.func)) allLook_nil), by rw [← rpl_set hj2]; rfl, hj2⟩, by omega⟩
      · -- else_t40
        refine JC.exit ?_ -- 2
        refine JC.rs ?_
        refine Seq.p rfl Ev.move ?_
        refine Seq.p rfl Ev.move ?_
        refine Seq.p rfl Ev.move ?_
        refine Seq.p rfl (Ev.iaN sl.sl_sl_api_Event (hr := he.r)) ?_
        refine Seq.p rfl (Ev.ldE1 sc.sl_api_Event (hr := he.r)) ?_
        refine Seq.call rfl (fun w' hw => refTrades (hp.up hw) (by omega)) (Gs := []) (F := _) (by exact List.Perm.refl _) ?_
        rintro _ _ ⟨A64, c64, rfl, rfl⟩
        simp only [List.cons_append, List.nil_append]
        refine Seq.append (j := (trE ps[i]!.es).length) (hsl := sl.sl_api_Event) (he := el.api_Event) (hH := At.s (At.s (At.s (At.s At.z)))) (hsrc := fun w' hw => Src.rsl sl.sl_api_Event (RAt.up (RAt.own (enc := Event.enc) (v := .slice A64 (trE ps[i]!.es).length c64) (xs := trE ps[i]!.es) (hs := by omega)) hw) (by omega) evOne) (k := ?_); intro A65 c65
        rw [← List.length_append, ← List.flatMap_append, hR2]
        refine Seq.p rfl Ev.assign ?_
        refine Seq.nil ?_
        refine JC.rs ?_
        refine Seq.p rfl Ev.move ?_
        refine Seq.callP rfl (fun w hw => atDay (l := tradesF X2) (by repeat (first | exact At.z | apply At.s)) (by repeat (first | exact At.z | apply At.s)) (by omega) (tradesF_q hg2) hw) ?_
        refine Seq.p rfl Ev.move ?_
        refine Seq.callP rfl (fun w hw => refBar (es := trE X2) (RAt.up (RAt.own (enc := Event.enc) (v := .slice A65 (trE X2).length c65) (xs := trE X2) (hs := by omega)) hw) (trE_good hg2)) ?_
        refine Seq.p rfl (Ev.as (v' := .bool false) (by rw [Bar.eqL_enc]; simp) (Ev.neAg (xs := (barF (tradesF X2)).enc) (ys := (barF (tradesF X2)).enc) so.api_Bar ag.api_Bar gd.api_Bar)) ?_
        refine Seq.nil ?_
        first | refine JC.c (ht := fun c70 => ?_) (hf := fun c70 => ?_) | refine JC.cb (ht := fun c70 => ?_) (hf := fun c70 => ?_)
        · -- then_t70
          cases c70
        · -- else_t70
          refine JC.skip ?_
          refine JC.reg ?_
          refine Seq.p rfl Ev.move ?_
          refine Seq.p rfl (by first | exact Ev.inc | exact Ev.add) ?_
          refine Seq.p rfl Ev.assign ?_
          refine Seq.nil ?_
          exact ⟨i + 1, [evL (.slice A65 (trE X2).length c65) (trE X2), statsC b18 (.slice A36 (tradesF X2).length c36), trdC (.slice A36 (tradesF X2).length c36) (tradesF X2)], (by repeat (first | exact Part.nil _ | refine Part.at (by repeat (first | exact At.z | apply At.s)) ?_)), ⟨A65, c65, A36, c36, by rw [← hX2]; exact Has.mk (by repeat (first | refine Off.upd ?_ rfl | exact Off.mix | refine Off.mix2 ?_ rfl | exact Off.refl)) (allLook_cons (by repeat (first | exact Look.here | apply Look.there (hne := rfl) | exact Look.const | apply Look.mix rfl | exact Look.arg0 | apply Look.args | exact Look.func)) (allLook_cons (by repeat (first | exact Look.here | apply Look.there (hne := rfl) | exact Look.const | apply Look.mix rfl | exact Look.arg0 | apply Look.args | exact Look.func)) allLook_nil)), by rw [← hX2], hi2⟩, by omega⟩
    · -- else_t25
      obtain rfl : i = ps.length := by omega
      have hl1 := hlE ps.length
      have hg2 := hgE ps.length
      obtain ⟨X, hX⟩ : ∃ X, X = allE ps ps.length := ⟨_, rfl⟩
      rw [← hX] at hl1 hg2 ⊢
      have ht1 := tradesF_len X
      have ht2 := trE_len X
      have hTq := tradesF_q hg2
      have hRq := trE_good hg2
      have hBl := barsF_len each.toNat _ (tradesF X) (Nat.le_refl _)
      have hMl := turnF_lt (tradesF X)
      have hdl4 := dg_len4 (n := turnF (tradesF X)) hMl
      obtain ⟨B, hB⟩ : ∃ B, B = barsF each.toNat (tradesF X) := ⟨_, rfl⟩
      rw [← hB] at hBl
      have hRB : ∀ {w' : World} {v' : Value}, RSl Event.enc 13 w' [] v' (trE X) → Spec Go.Proofs.Try.prog 15 #[v', .int .i64 each] w' [] (fun u F' => ∃ A c, u = .slice A B.length c ∧ F' = [.own 30 6 (.slice A B.length c) B.length (B.flatMap Bar.enc)]) := fun h => by
        have h2 := refBars (each := each) h hRq (by omega) hea
        rw [trE_map, ← hB] at h2
        exact h2
      have hRM : ∀ {w' : World} {v' : Value}, RSl Event.enc 13 w' [] v' (trE X) → Spec Go.Proofs.Try.prog 16 #[v'] w' [] (fun u _ => u = .tuple #[.int .u64 ((meanF (tradesF X)).1 : Int), .bool (meanF (tradesF X)).2]) := fun h => refMean h hRq
      have hRT : ∀ {w' : World} {v' : Value}, RSl Event.enc 13 w' [] v' (trE X) → Spec Go.Proofs.Try.prog 18 #[v'] w' [] (fun u H' => ∃ A c, u = .agg #[.bool false, .slice A (dg (turnF (tradesF X))).length c] ∧ H' = [bigL (.slice A (dg (turnF (tradesF X))).length c) (dg (turnF (tradesF X)))]) := fun h => refTurnover h hRq
      refine JC.exit ?_ -- 0
      refine JC.rs ?_
      refine Seq.p rfl Ev.move ?_
      refine Seq.p rfl Ev.move ?_
      refine Seq.call rfl (fun w hw => atBars (l := tradesF X) (by repeat (first | exact At.z | apply At.s)) (by repeat (first | exact At.z | apply At.s)) (by omega) hTq hw) (Gs := []) (F := _) (by exact List.Perm.refl _) ?_
      rintro _ _ ⟨A73, c73, rfl, rfl⟩
      rw [← hB]
      simp only [List.cons_append, List.nil_append]
      refine Seq.p rfl Ev.move ?_
      refine Seq.p rfl Ev.move ?_
      refine Seq.call rfl (fun w hw => atBars (l := tradesF X) (by repeat (first | exact At.z | apply At.s)) (by repeat (first | exact At.z | apply At.s)) (by omega) hTq hw) (Gs := []) (F := _) (by exact List.Perm.refl _) ?_
      rintro _ _ ⟨A76, c76, rfl, rfl⟩
      rw [← hB]
      simp only [List.cons_append, List.nil_append]
      refine Seq.p rfl Ev.assign ?_
      refine Seq.p rfl Ev.assign ?_
      refine Seq.nil ?_
      refine JC.rs ?_
      refine Seq.p rfl Ev.move ?_
      refine Seq.p rfl Ev.move ?_
      refine Seq.call rfl (fun w' hw => hRB (RAt.up (RAt.own (enc := Event.enc) (v := .slice A6 (trE X).length c6) (xs := trE X) (hs := by omega)) hw)) (Gs := []) (F := _) (by exact List.Perm.refl _) ?_
      rintro _ _ ⟨A79, c79, rfl, rfl⟩
      simp only [List.cons_append, List.nil_append]
      refine Seq.p rfl Ev.assign ?_
      refine Seq.nil ?_
      refine JC.rs ?_
      refine Seq.p rfl Ev.move ?_
      refine Seq.callP rfl (fun w hw => atMean (l := tradesF X) (by repeat (first | exact At.z | apply At.s)) (by repeat (first | exact At.z | apply At.s)) (by omega) hTq hw) ?_
      refine Seq.p rfl Ev.move ?_
      refine Seq.p rfl Ev.extract ?_
      refine Seq.p rfl Ev.extract ?_
      refine Seq.p rfl Ev.assign ?_
      refine Seq.p rfl Ev.assign ?_
      refine Seq.nil ?_
      refine JC.rs ?_
      refine Seq.p rfl Ev.move ?_
      refine Seq.callP rfl (fun w hw => hRM (RAt.up (RAt.own (enc := Event.enc) (v := .slice A6 (trE X).length c6) (xs := trE X) (hs := by omega)) hw)) ?_
      refine Seq.p rfl Ev.move ?_
      refine Seq.p rfl Ev.extract ?_
      refine Seq.p rfl Ev.extract ?_
      refine Seq.p rfl Ev.assign ?_
      refine Seq.p rfl Ev.assign ?_
      refine Seq.nil ?_
      refine JC.seq ?_
      refine JC.rs ?_
      refine Seq.p rfl Ev.move ?_
      refine Seq.p rfl Ev.move ?_
      refine Seq.callP (v := .bool true) rfl (fun w' hw => by have h := barsEqual (w := w') (xs := B) (ys := B) (RAt.up (RAt.own (enc := Bar.enc) (v := .slice A73 B.length c73) (xs := B) (hs := by omega)) hw) (RAt.up (RAt.own (enc := Bar.enc) (v := .slice A79 B.length c79) (xs := B) (hs := by omega)) hw); rw [decide_eq_true (rfl : B = B)] at h; exact h) ?_
      refine Seq.p rfl Ev.not ?_
      refine Seq.p rfl Ev.move ?_
      refine Seq.split (d := 94) (k := ?_)
      rintro (_|_) h94
      · try simp only [decide_eq_true_eq, decide_eq_false_iff_not] at h94
        refine Seq.gy rfl rfl rfl ?_
        refine Seq.p rfl Ev.move ?_
        refine Seq.gy rfl rfl rfl ?_
        refine Seq.p rfl Ev.move ?_
        refine Seq.gy rfl rfl rfl ?_
        refine Seq.callP (v := .bool true) rfl (fun w' hw => by have h := barsEqual (w := w') (xs := B) (ys := B) (RAt.up (RAt.own (enc := Bar.enc) (v := .slice A76 B.length c76) (xs := B) (hs := by omega)) hw) (RAt.up (RAt.own (enc := Bar.enc) (v := .slice A79 B.length c79) (xs := B) (hs := by omega)) hw); rw [decide_eq_true (rfl : B = B)] at h; exact h) ?_
        refine Seq.gy rfl rfl rfl ?_
        refine Seq.p rfl Ev.not ?_
        refine Seq.p rfl Ev.pickF ?_
        refine Seq.p rfl Ev.move ?_
        refine Seq.split (d := 100) (k := ?_)
        rintro (_|_) h100
        · try simp only [decide_eq_true_eq, decide_eq_false_iff_not] at h100
          refine Seq.gy rfl rfl rfl ?_
          refine Seq.p rfl Ev.move ?_
          refine Seq.gy rfl rfl rfl ?_
          refine Seq.p rfl Ev.move ?_
          refine Seq.gy rfl rfl rfl ?_
          refine Seq.p rfl Ev.ne ?_
          refine Seq.p rfl Ev.pickF ?_
          refine Seq.p rfl Ev.move ?_
          refine Seq.split (d := 105) (k := ?_)
          rintro (_|_) h105
          · try simp only [decide_eq_true_eq, decide_eq_false_iff_not] at h105
            refine Seq.gy rfl rfl rfl ?_
            refine Seq.p rfl Ev.move ?_
            refine Seq.gy rfl rfl rfl ?_
            refine Seq.p rfl Ev.move ?_
            refine Seq.gy rfl rfl rfl ?_
            refine Seq.p rfl (Ev.neB bl.bool) ?_
            refine Seq.p rfl Ev.pickF ?_
            refine Seq.p rfl Ev.move ?_
            refine Seq.split (d := 110) (k := ?_)
            rintro (_|_) h110
            · try simp only [decide_eq_true_eq, decide_eq_false_iff_not] at h110
              refine Seq.gy rfl rfl rfl ?_
              refine Seq.p rfl Ev.move ?_
              refine Seq.gy rfl rfl rfl ?_
              refine Seq.callP rfl (fun w hw => atTurnover (l := tradesF X) (by repeat (first | exact At.z | apply At.s)) (by repeat (first | exact At.z | apply At.s)) (by omega) hTq hw) ?_
              refine Seq.gy rfl rfl rfl ?_
              refine Seq.callP rfl (fun w hw => numText (n := turnF (tradesF X)) hMl) ?_
              refine Seq.gy rfl rfl rfl ?_
              refine Seq.p rfl Ev.move ?_
              refine Seq.gy rfl rfl rfl ?_
              refine Seq.call rfl (fun w' hw => hRT (RAt.up (RAt.own (enc := Event.enc) (v := .slice A6 (trE X).length c6) (xs := trE X) (hs := by omega)) hw)) (Gs := []) (F := _) (by exact List.Perm.refl _) ?_
              rintro _ _ ⟨A115, c115, rfl, rfl⟩
              simp only [List.cons_append, List.nil_append]
              refine Seq.gy rfl rfl rfl ?_
              refine Seq.callP rfl (fun w hw => refText01 (n := turnF (tradesF X)) (RAt.up (RAt.own (enc := numEnc) (v := .slice A115 (dg (turnF (tradesF X))).length c115) (xs := dg (turnF (tradesF X))) (hs := by omega)) hw) hMl) ?_
              refine Seq.gy rfl rfl rfl ?_
              refine Seq.p rfl Ev.neStr ?_
              refine Seq.p rfl Ev.pickF ?_
              refine Seq.nil ?_
              first | refine JC.c (ht := fun c118 => ?_) (hf := fun c118 => ?_) | refine JC.cb (ht := fun c118 => ?_) (hf := fun c118 => ?_)
              · -- then_t118
                simp at c118
              · -- else_t118
                refine JC.skip ?_
                refine JC.seq ?_
                refine JC.rs ?_
                refine Seq.p rfl Ev.assign ?_
                refine Seq.nil ?_
                refine JC.blk ?_
                refine JC.re (fun w h => h.part (H' := [.own 30 6 (.slice A73 B.length c73) B.length (B.flatMap Bar.enc), .own 30 6 (.slice A76 B.length c76) B.length (B.flatMap Bar.enc), .own 30 6 (.slice A79 B.length c79) B.length (B.flatMap Bar.enc)]) (by repeat (first | exact Part.nil _ | refine Part.at (by repeat (first | exact At.z | apply At.s)) ?_))) ?_
                refine JC.loop (α := Nat) (I := fun q e1 H1 => Has [17, 119, 120, 121, 122, 123, 124, 125, 126, 127, 128] [(17, .int .i64 (q : Int))] _ e1 ∧ H1 = [.own 30 6 (.slice A73 B.length c73) (rpl barM B q).length ((rpl barM B q).flatMap Bar.enc), .own 30 6 (.slice A76 B.length c76) B.length (B.flatMap Bar.enc), .own 30 6 (.slice A79 B.length c79) B.length (B.flatMap Bar.enc)] ∧ q ≤ B.length) (μ := fun q => B.length - q) 0 ⟨Has.mk Off.refl (allLook_cons (by repeat (first | exact Look.here | apply Look.there (hne := rfl) | exact Look.const | apply Look.mix rfl | exact Look.arg0 | apply Look.args | exact Look.func)) allLook_nil), rfl, Nat.zero_le _⟩ ?_
                rintro q _ _ ⟨⟨u, rfl⟩, rfl, hq⟩; dsimp only [setL]
                have hrl := rpl_len (m := barM) hq
                refine JC.seq ?_
                refine JC.rs ?_
                refine Seq.p rfl Ev.move ?_
                refine Seq.p rfl Ev.move ?_
                refine Seq.p rfl (Ev.lenH sl.sl_api_Bar) ?_
                refine Seq.p rfl Ev.lt ?_
                refine Seq.nil ?_
                first | refine JC.c (ht := fun c122 => ?_) (hf := fun c122 => ?_) | refine JC.cb (ht := fun c122 => ?_) (hf := fun c122 => ?_)
                · -- then_t122
                  have hq2 : q < B.length := by omega
                  refine JC.skip ?_
                  refine JC.seq ?_
                  refine JC.blk ?_
                  refine JC.reg ?_
                  refine Seq.p rfl Ev.move ?_
                  refine Seq.p rfl Ev.move ?_
                  refine Seq.p rfl (Ev.buildN [_, _, _, _, _, _] pl.api_Bar z.api_Bar) ?_
                  refine Seq.p rfl (Ev.iaN sl.sl_api_Bar (i := q) (hr := RAt.own (enc := Bar.enc) (v := .slice A73 B.length c73) (xs := rpl barM B q) (hs := by omega)) (hi := by omega)) ?_
                  refine Seq.stOwn (enc := Bar.enc) (xs := rpl barM B q) (q := q) barM sz.api_Bar (by decide) (h1 := barOne) (k := ?_)
                  refine Seq.nil ?_
                  refine JC.reg ?_
                  refine Seq.p rfl Ev.move ?_
                  refine Seq.p rfl (by first | exact Ev.inc | exact Ev.add) ?_
                  refine Seq.p rfl Ev.assign ?_
                  refine Seq.nil ?_
                  exact ⟨q + 1, _, Part.refl _, ⟨Has.mk (by repeat (first | refine Off.upd ?_ rfl | exact Off.mix | refine Off.mix2 ?_ rfl | exact Off.refl)) (allLook_cons (by repeat (first | exact Look.here | apply Look.there (hne := rfl) | exact Look.const | apply Look.mix rfl | exact Look.arg0 | apply Look.args | exact Look.func)) allLook_nil), by rw [← rpl_set hq2]; rfl, hq2⟩, by omega⟩
                · -- else_t122
                  refine JC.exit ?_ -- 4
                  refine JC.rs ?_
                  refine Seq.p rfl Ev.move ?_
                  refine Seq.p rfl Ev.move ?_
                  refine Seq.callP (v := .bool true) rfl (fun w' hw => by have h := barsEqual (w := w') (xs := B) (ys := B) (RAt.up (RAt.own (enc := Bar.enc) (v := .slice A76 B.length c76) (xs := B) (hs := by omega)) hw) (RAt.up (RAt.own (enc := Bar.enc) (v := .slice A79 B.length c79) (xs := B) (hs := by omega)) hw); rw [decide_eq_true (rfl : B = B)] at h; exact h) ?_
                  refine Seq.p rfl Ev.assign ?_
                  refine Seq.nil ?_
                  refine JC.ret ?_
                  show retQ _ _ _ _ _ _ _ _
                  refine ret1 (hp := Part.nil _) (hpost := ?_)
                  rfl
            · try simp only [decide_eq_true_eq, decide_eq_false_iff_not] at h110
              simp at h110
          · try simp only [decide_eq_true_eq, decide_eq_false_iff_not] at h105
            simp at h105
        · try simp only [decide_eq_true_eq, decide_eq_false_iff_not] at h100
          simp at h100
      · try simp only [decide_eq_true_eq, decide_eq_false_iff_not] at h94
        simp at h94
end Go.Rx
