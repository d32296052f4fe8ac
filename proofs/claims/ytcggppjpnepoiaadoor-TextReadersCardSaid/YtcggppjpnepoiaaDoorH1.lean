/- text.Number: what ParseUint reads, if Decimal writes it back. -/
import Derived.Test.YtcggppjpnepoiaaDoorF1
import Derived.Test.YtcggppjpnepoiaaDoorG1
import Derived.Lib.AtoiErrMem
import Derived.Shelf.Lay
namespace Go.Proofs.YtcggppjpnepoiaaDoor
open Go Go.RowKit Go.Sort Go.Lib Go.Rx
set_option linter.unusedVariables false
theorem var_below {P : Program} {w w' : World} {n : String} {x : Array Value} (hb : Below w.heap.size w w') (h : w.var? P n = some x) : w'.var? P n = some x := by
  unfold World.var? at *
  cases hg : P.globalNamed n with
  | none => simp [hg] at h
  | some g =>
    simp only [hg, Option.bind_some] at h ⊢
    have hlt : g < w.heap.size := by
      rcases Nat.lt_or_ge g w.heap.size with h' | h'
      · exact h'
      · rw [Array.getElem?_eq_none h'] at h; simp at h
    rw [hb.block g hlt]
    exact h
/-- What the listed variables give. -/
structure Laid (w : World) : Prop where
  tab : Lib.TabIs Go.Proofs.Tryd.prog w "internal/strconv.uint64pow10" .u64 Lib.pow10Tab
  syn : ∃ tp p, w.var? Go.Proofs.Tryd.prog "strconv.ErrSyntax" = some #[.iface tp p]
  rng : ∃ tp p, w.var? Go.Proofs.Tryd.prog "strconv.ErrRange" = some #[.iface tp p]
theorem Laid.below {w w' : World} (h : Laid w) (hb : Below w.heap.size w w') : Laid w' :=
  ⟨var_below hb h.tab, h.syn.imp fun _ h => h.imp fun _ h => var_below hb h, h.rng.imp fun _ h => h.imp fun _ h => var_below hb h⟩
theorem upd_of_below {w w' : World} (h : Below w.heap.size w w') : Upd w w' [] [] :=
  ⟨h.os, h.tape, h.output, h.size, fun i hi _ => h.block i hi, Own.nil _, fun _ hc => by cases hc⟩
theorem parse_ok (s : ByteArray) (hlim : s.size ≤ 281474976710656) (u : Nat) (h : parseUintB 64 s.data.toList = .ok u) (w : World) :
    Calls Go.Proofs.Tryd.prog 32 #[.string s, .int .i64 10, .int .i64 64] w fun e w' => e = .returned (.tuple #[.int .u64 u, .nilIface]) ∧ Below w.heap.size w w' := by
  refine (Tryd.strconv_ParseUint_10_at64_ok s (by omega) u h w).mono ?_
  rintro e w' ⟨rfl, rfl | rfl⟩
  · exact ⟨rfl, Below.refl _ _⟩
  · exact ⟨rfl, Lib.bytesWorld_below _ _ _⟩
theorem parse_bad (s : ByteArray) (hlim : s.size ≤ 281474976710656) (h : okOf (parseUintB 64 s.data.toList) = none) (w : World) (hL : Laid w) :
    Calls Go.Proofs.Tryd.prog 32 #[.string s, .int .i64 10, .int .i64 64] w fun e w' => ∃ (n : Int) (N : Nat), e = .returned (.tuple #[.int .u64 n, .iface 112 (.pointer (some ⟨N, 0, none⟩))]) ∧ Below w.heap.size w w' := by
  obtain ⟨⟨t1, p1, h1⟩, t2, p2, h2⟩ := And.intro hL.syn hL.rng
  by_cases hS : parseUintB 64 s.data.toList = parseUintB 64 []
  · refine (Tryd.strconv_ParseUint_10_at64_syntax_var s hlim hS t1 p1 w h1).mono ?_
    rintro e w' ⟨N, rfl, -, -, hb⟩
    exact ⟨_, N, rfl, hb⟩
  · have hq : parseUintB 64 s.data.toList = .range := by
      cases hq : parseUintB 64 s.data.toList with
      | ok u => rw [hq] at h; cases h
      | range => rfl
      | _ => exact absurd (hq.trans rfl) hS
    refine (Tryd.strconv_ParseUint_10_at64_range_var s hlim hq t2 p2 w h2).mono ?_
    rintro e w' ⟨N, rfl, -, -, hb⟩
    exact ⟨_, N, rfl, hb⟩
theorem valueC {w : World} {v : Value} {xs : List Tg} {tag : Int} {u : Value} (hr : RSl Tg.enc 2 w [] v xs) (hu : valueV (valueF xs tag) = u) :
    Calls Go.Proofs.Tryd.prog 10 #[v, .int .i64 tag] w fun e w' => e = .returned u ∧ Below w.heap.size w w' := by
  refine (textValue (tag := tag) hr).2.mono ?_
  rintro e w' ⟨_, H', rfl, hu', rfl⟩
  exact ⟨by rw [hu], hu'.below'⟩
theorem bytes_ext {s : ByteArray} {l : List UInt8} : (⟨l.toArray⟩ : ByteArray) = s ↔ l = s.data.toList := by
  constructor
  · rintro rfl; simp
  · rintro rfl; simp
set_option maxHeartbeats 4000000 in
set_option maxRecDepth 100000 in
theorem numberC {w : World} {v : Value} {xs : List Tg} {tag : Int} (hr : RSl Tg.enc 2 w [] v xs) (hsz : ∀ t ∈ xs, t.value.size ≤ 281474976710656) (hL : Laid w) :
    Calls Go.Proofs.Tryd.prog 12 #[v, .int .i64 tag] w fun e w' => e = .returned (numV (valueF xs tag)) ∧ Below w.heap.size w w' := by
  cases hv : valueF xs tag with
  | none =>
    have hval := valueC (tag := tag) (u := .tuple #[.string ⟨#[]⟩, .bool false]) hr (by rw [hv]; rfl)
    go_enter Tryd.func12, Tryd.ntmps12
    go_wp2_with (go_at_call 10; refine hval.mono ?_; rintro e w1 ⟨rfl, hb1⟩)
    go_ret2
    exact ⟨rfl, hb1⟩
  | some s =>
    have hval := valueC (tag := tag) (u := .tuple #[.string s, .bool true]) hr (by rw [hv]; rfl)
    have hlim : s.size ≤ 281474976710656 := by obtain ⟨t, ht, rfl⟩ := valueF_mem hv; exact hsz t ht
    cases hq : okOf (parseUintB 64 s.data.toList) with
    | none =>
      have hn : numV (some s) = .tuple #[.int .u64 0, .int .i64 31] := by simp only [numV, numOf, hq]
      rw [hn]
      go_enter Tryd.func12, Tryd.ntmps12
      go_wp2_with (go_at_call 10; refine hval.mono ?_; rintro e w1 ⟨rfl, hb1⟩)
      go_at_call 32
      refine (parse_bad s hlim hq _ (hL.below hb1)).mono ?_
      rintro e w2 ⟨n, N, rfl, hb2⟩
      go_wp2
      go_ret2
      exact ⟨rfl, hb1.trans (hb2.mono hb1.size)⟩
    | some u =>
      have hq2 : parseUintB 64 s.data.toList = .ok u := by
        cases h : parseUintB 64 s.data.toList with
        | ok u' => rw [h] at hq; simp only [okOf, Option.some.injEq] at hq; rw [hq]
        | _ => rw [h] at hq; cases hq
      have hu : u < 18446744073709551616 := by have h := parseUintB_le hq2; have e64 : (2 : Nat) ^ 64 - 1 = 18446744073709551615 := by decide
                                               omega
      by_cases hd : decDigits u = s.data.toList
      · have hn : numV (some s) = .tuple #[.int .u64 (u : Int), .int .i64 0] := by simp only [numV, numOf, hq, if_pos hd]
        rw [hn]
        have he := bytes_ext.2 hd
        go_enter Tryd.func12, Tryd.ntmps12
        go_wp2_with (go_at_call 10; refine hval.mono ?_; rintro e w1 ⟨rfl, hb1⟩)
        go_at_call 32
        refine (parse_ok s hlim u hq2 _).mono ?_
        rintro e w2 ⟨rfl, hb2⟩
        have hb := hb1.trans (hb2.mono hb1.size)
        have hL2 := (hL.below hb).tab
        go_wp2_with (go_at_call 15; refine (decimalC u hu _ hL2).mono ?_; rintro e w3 ⟨rfl, hb3⟩)
        go_ret2
        exact ⟨rfl, hb.trans (hb3.mono hb.size)⟩
      · have hn : numV (some s) = .tuple #[.int .u64 0, .int .i64 31] := by simp only [numV, numOf, hq, if_neg hd]
        rw [hn]
        have he : ¬ (⟨(decDigits u).toArray⟩ : ByteArray) = s := fun h => hd (bytes_ext.1 h)
        go_enter Tryd.func12, Tryd.ntmps12
        go_wp2_with (go_at_call 10; refine hval.mono ?_; rintro e w1 ⟨rfl, hb1⟩)
        go_at_call 32
        refine (parse_ok s hlim u hq2 _).mono ?_
        rintro e w2 ⟨rfl, hb2⟩
        have hb := hb1.trans (hb2.mono hb1.size)
        have hL2 := (hL.below hb).tab
        go_wp2_with (go_at_call 15; refine (decimalC u hu _ hL2).mono ?_; rintro e w3 ⟨rfl, hb3⟩)
        all_goals first
          | (go_ret2; exact ⟨rfl, hb.trans (hb3.mono hb.size)⟩)
          | (rename_i h; rw [Go.ByteArray.toList_eq] at h; simp [hd] at h)
set_option maxHeartbeats 4000000 in
set_option maxRecDepth 100000 in
theorem refNumberC {w : World} {v : Value} {xs : List Tg} {tag : Int} (hr : RSl Tg.enc 2 w [] v xs) :
    Calls Go.Proofs.Tryd.prog 13 #[v, .int .i64 tag] w fun e w' => e = .returned (numV (valueF xs tag)) ∧ Below w.heap.size w w' := by
  have hV : ∀ u, valueV (valueF xs tag) = u → Calls Go.Proofs.Tryd.prog 11 #[v, .int .i64 tag] w fun e w' => e = .returned u ∧ Below w.heap.size w w' := by
    intro u hu
    refine (refValue (tag := tag) hr).2.mono ?_
    rintro e w' ⟨_, H', rfl, hu', rfl⟩
    exact ⟨by rw [hu], hu'.below'⟩
  have hN : ∀ (s : ByteArray) (w : World) u, natV (natF s) = u → Calls Go.Proofs.Tryd.prog 33 #[.string s] w fun e w' => e = .returned u ∧ Below w.heap.size w w' := by
    intro s w u hu
    refine (refNatural (s := s) (w := w)).2.mono ?_
    rintro e w' ⟨_, H', rfl, hu', rfl⟩
    exact ⟨by rw [hu], hu'.below'⟩
  cases hv : valueF xs tag with
  | none =>
    have hval := hV (.tuple #[.string ⟨#[]⟩, .bool false]) (by rw [hv]; rfl)
    go_enter Tryd.func13, Tryd.ntmps13
    go_wp2_with (go_at_call 11; refine hval.mono ?_; rintro e w1 ⟨rfl, hb1⟩)
    go_ret2
    exact ⟨rfl, hb1⟩
  | some s =>
    have hval := hV (.tuple #[.string s, .bool true]) (by rw [hv]; rfl)
    cases hq : numOf s with
    | none =>
      have hn : numV (some s) = .tuple #[.int .u64 0, .int .i64 31] := by simp only [numV, hq]
      rw [hn]
      have hnat := fun w => hN s w (.tuple #[.int .u64 0, .bool false]) (by rw [natF_eq, hq]; rfl)
      go_enter Tryd.func13, Tryd.ntmps13
      go_wp2_with (first | (go_at_call 11; refine hval.mono ?_; rintro e w1 ⟨rfl, hb1⟩) | (go_at_call 33; refine (hnat _).mono ?_; rintro e w2 ⟨rfl, hb2⟩))
      go_ret2
      exact ⟨rfl, hb1.trans (hb2.mono hb1.size)⟩
    | some u =>
      have hn : numV (some s) = .tuple #[.int .u64 (u : Int), .int .i64 0] := by simp only [numV, hq]
      rw [hn]
      have hnat := fun w => hN s w (.tuple #[.int .u64 (u : Int), .bool true]) (by rw [natF_eq, hq]; rfl)
      go_enter Tryd.func13, Tryd.ntmps13
      go_wp2_with (first | (go_at_call 11; refine hval.mono ?_; rintro e w1 ⟨rfl, hb1⟩) | (go_at_call 33; refine (hnat _).mono ?_; rintro e w2 ⟨rfl, hb2⟩))
      go_ret2
      exact ⟨rfl, hb1.trans (hb2.mono hb1.size)⟩
theorem spec_of_below {f : FuncId} {args : Array Value} {w : World} {v : Value} (he : Go.Rx.Enters Go.Proofs.Tryd.prog f) (h : Calls Go.Proofs.Tryd.prog f args w fun e w' => e = .returned v ∧ Below w.heap.size w w') : Go.Rx.Spec Go.Proofs.Tryd.prog f args w [] (fun u _ => u = v) := by
  refine ⟨he, h.mono ?_⟩
  rintro e w' ⟨rfl, hb⟩
  exact ⟨_, [], rfl, upd_of_below hb, rfl⟩
theorem textNumber {w : World} {v : Value} {xs : List Tg} {tag : Int} (hr : RSl Tg.enc 2 w [] v xs) (hsz : ∀ t ∈ xs, t.value.size ≤ 281474976710656) (hL : Laid w) : Go.Rx.Spec Go.Proofs.Tryd.prog 12 #[v, .int .i64 tag] w [] (fun u _ => u = numV (valueF xs tag)) :=
  spec_of_below ⟨Tryd.f12, Tryd.func12, by kernel_rfl, rfl⟩ (numberC hr hsz hL)
theorem refNumber {w : World} {v : Value} {xs : List Tg} {tag : Int} (hr : RSl Tg.enc 2 w [] v xs) : Go.Rx.Spec Go.Proofs.Tryd.prog 13 #[v, .int .i64 tag] w [] (fun u _ => u = numV (valueF xs tag)) :=
  spec_of_below ⟨Tryd.f13, Tryd.func13, by kernel_rfl, rfl⟩ (refNumberC hr)
theorem textDecimal {w : World} {u : Nat} (hu : u < 18446744073709551616) (hL : Laid w) : Go.Rx.Spec Go.Proofs.Tryd.prog 15 #[.int .u64 u] w [] (fun v _ => v = .string ⟨(Lib.decDigits u).toArray⟩) :=
  spec_of_below ⟨Tryd.f15, Tryd.func15, by kernel_rfl, rfl⟩ (decimalC u hu w hL.tab)
theorem Laid.upd {w w' : World} {H : List Chunk} (h : Laid w) (hu : Upd w w' [] H) : Laid w' := h.below hu.below'
end Go.Proofs.YtcggppjpnepoiaaDoor
