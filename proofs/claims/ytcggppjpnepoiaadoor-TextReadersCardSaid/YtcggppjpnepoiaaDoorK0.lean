/- From the reading of a call's arguments to tags; from what a row lists to what the walks want. -/
import Derived.Test.YtcggppjpnepoiaaDoorJ1
import Derived.Test.YtcggppjpnepoiaaDoorRows
import Derived.Stop.LaidErr
import Derived.LaidLaws
import Derived.LaidHandle
import Derived.ChangeMaps5
import Derived.SizedLaws
namespace Go.Rx
open Go Go.RowKit
set_option linter.unusedVariables false
section
variable {H : Type} {enc : TypeId × Value → H} {P : Program} {w : World} {base : Nat} {held : Bool}
theorem weights_mem_all {e : TypeId} {n : Nat} : ∀ {ds : List (DataW H)} {d : DataW H}, d ∈ ds → n ∈ d.weights P e → n ∈ DataW.weightsAll P e ds
  | x :: r, d, hd, hn => by
    simp only [DataW.weightsAll, List.mem_append]
    rcases List.mem_cons.1 hd with rfl | hd
    · exact .inl hn
    · exact .inr (weights_mem_all hd hn)
/-- A slice of plain data, and what is told of each row by its reading. -/
theorem open_rows2 {α : Type} [Inhabited α] {en : α → List Value} {dec : List Value → α} {l : List Sort1} {t e : TypeId} {fuel : Nat} {cs : List Value} {x : DataW H × List MemPlace} (Q : List Value → Prop) (ht : P.underlying t = some (.slice e)) (hs : sorts P 20 e = some l) (hpos : 0 < P.bytesOf e)
    (hen : ∀ cs, areSorts l cs = true → en (dec cs) = cs) (hQ : ∀ fuel row y, DataW.trod enc P w base (fun _ => true) held fuel e row = some y → Light P e y.1 → areSorts l row = true → Q row)
    (h : DataW.trod enc P w base (fun _ => true) held fuel t cs = some x) (hl : Light P t x.1) :
    ∃ (A : Option Addr) (c : Nat) (xs : List α), cs = [.slice A xs.length c] ∧ RSl en l.length w [] (.slice A xs.length c) xs ∧ xs.length * P.bytesOf e ≤ reachBytes ∧ ∀ x ∈ xs, Q (en x) := by
  rcases DataW.trod_slice ht h with ⟨rfl, rfl⟩ | ⟨a, len, cap, elems, rest, n, rfl, rfl, rfl, hb, hlc, hcm, hel, hget, hsp, _⟩
  · exact ⟨none, 0, [], rfl, ⟨⟨none, 0, rfl, Nat.le_refl _, fun _ => rfl⟩, by simp, by simp, fun i hi => by simp at hi⟩, by simp, by simp⟩
  · have hw := hl ((elems.map (·.1)).length + (rest.map (·.1)).length |> (· * P.bytesOf e)) (by simp [DataW.weights, ht])
    have hrow : ∀ i, i < len → ∃ row, areSorts l row = true ∧ Q row ∧ ∀ j u, row[j]? = some u → w.cell? ((a.add (i * l.length)).add j) = some u := by
      intro i hi
      have h1 := hget i hi
      have h2 : i < elems.length := by omega
      rw [List.getElem?_eq_getElem h2, Option.bind_eq_some_iff] at h1
      obtain ⟨row, hr1, hr2⟩ := h1
      rw [sorts_cells hs] at hr1
      have g := trod_plain 20 e l hs n row _ hr2
      have hli : Light P e elems[i].1 := fun m hm => hl m (by
        simp only [DataW.weights, ht]
        refine List.mem_cons_of_mem _ (List.mem_append.2 (.inl ?_))
        exact weights_mem_all (List.mem_map.2 ⟨elems[i], List.getElem_mem _, rfl⟩) hm)
      exact ⟨row, g.1, hQ n row _ hr2 hli g.1, (cells?_get hr1).2⟩
    classical
    let f : Nat → α := fun i => if h : i < len then dec (Classical.choose (hrow i h)) else default
    have hf : ∀ i (h : i < len), en (f i) = Classical.choose (hrow i h) := by
      intro i h
      simp only [f, dif_pos h]
      exact hen _ (Classical.choose_spec (hrow i h)).1
    refine ⟨some a, cap, (List.range len).map f, by simp, ⟨⟨some a, cap, by simp, by simpa using hlc, by simp⟩, ?_, ?_, ?_⟩, ?_, ?_⟩
    · simp at hw ⊢
      have : len * 1 ≤ reachBytes := Nat.le_trans (Nat.mul_le_mul (by omega : len ≤ elems.length + rest.length) hpos) hw
      simp only [reachBytes] at this
      omega
    · intro x hx
      obtain ⟨i, hi, rfl⟩ := List.mem_map.1 hx
      have hi' : i < len := by simpa using hi
      rw [hf i hi']
      exact areSorts_length (Classical.choose_spec (hrow i hi')).1
    · intro i hi j u hu
      have hi' : i < len := by simpa using hi
      have e1 : ((List.range len).map f)[i]! = f i := by
        rw [getElem!_pos _ i hi]
        simp
      rw [e1, hf i hi'] at hu
      have := (Classical.choose_spec (hrow i hi')).2.2 j u hu
      rw [Addr.add_add] at this
      exact ⟨by simpa [sbase] using this, by simp⟩
    · simp at hw ⊢
      refine Nat.le_trans (Nat.mul_le_mul_right _ ?_) hw
      omega
    · intro x hx
      obtain ⟨i, hi, rfl⟩ := List.mem_map.1 hx
      have hi' : i < len := by simpa using hi
      rw [hf i hi']
      exact (Classical.choose_spec (hrow i hi')).2.1
end
def Tg.dec : List Value → Tg
  | [.int .i64 n, .string s] => ⟨n, s⟩
  | _ => default
theorem tg_sorts {cs : List Value} (h : areSorts [.int .i64, .str] cs = true) : ∃ n s, cs = [.int .i64 n, .string s] := by
  obtain ⟨c0, r0, rfl, h0, h⟩ := areSorts_cons h
  obtain ⟨c1, r1, rfl, h1, h⟩ := areSorts_cons h
  obtain rfl := areSorts_nil h
  obtain ⟨n0, rfl⟩ := isSort_int h0
  cases c1 <;> simp [isSort] at h1
  exact ⟨_, _, rfl⟩
theorem open_tags {H : Type} {enc : TypeId × Value → H} {W : World} {v : Value} {d : DataW H} {p : List MemPlace} (h : DataW.Trod enc Go.Proofs.Tryd.prog W 0 (fun _ => true) true 22 v d p) (hl : Light Go.Proofs.Tryd.prog 22 d) (hv : ∃ A n c, v = .slice A n c) :
    ∃ xs : List Tg, RSl Tg.enc 2 W [] v xs ∧ (∀ t ∈ xs, t.value.size ≤ 281474976710656) ∧ xs.length * 24 ≤ 140737488355328 := by
  obtain ⟨A, n, c, rfl⟩ := hv
  obtain ⟨fuel, hf⟩ := h
  obtain ⟨A2, c2, xs, h1, r1, l1, w1⟩ := open_rows2 (en := Tg.enc) (dec := Tg.dec) (fun row => ∀ n s, row = [.int .i64 n, .string s] → s.size ≤ reachBytes) Go.Proofs.Tryd.underlying22 so.api_Tag (by rw [byt.api_Tag]; decide) (fun cs h => by
    obtain ⟨n, s, rfl⟩ := tg_sorts h
    rfl) (fun fuel row y hy hly hso n s hrow => by
      obtain ⟨ys, m, _, rfl, _, hyl, hg⟩ := DataW.trod_struct Go.Proofs.Tryd.underlying30 hy
      have h1 : ys.length = 2 := hyl
      have h2 := hg 1 _ rfl
      have h3 : ys[1]? = some ys[1] := List.getElem?_eq_getElem (by omega)
      rw [h3] at h2
      obtain ⟨s', e1, e2, _⟩ := DataW.trod_string Go.Proofs.Tryd.underlying9 h2
      have h4 := light_field Go.Proofs.Tryd.underlying30 hly (i := 1) rfl h3
      have hc : (Go.Proofs.Tryd.prog.cellsOf 9) = 1 := by kernel_rfl
      have e3 : s' = s := by
        subst hrow
        have e1' : ([Value.int .i64 n, Value.string s].drop 1).take (Go.Proofs.Tryd.prog.cellsOf 9) = [.string s'] := e1
        rw [hc] at e1'
        simp at e1'
        exact e1'.symm
      subst e3
      have h5 := h4 s'.data.toList.length (by rw [e2]; simp [DataW.weights])
      simpa using h5) hf hl
  rw [byt.api_Tag] at l1
  have e : (Value.slice A n c).cells.toList = [.slice A n c] := rfl
  rw [e] at h1
  rw [← (List.cons.inj h1).1] at r1
  refine ⟨xs, r1, fun t ht => ?_, by simp only [reachBytes] at l1; omega⟩
  have := w1 t ht _ _ rfl
  simp only [reachBytes] at this
  omega
end Go.Rx
namespace Go.Proofs.YtcggppjpnepoiaaDoor
open Go Go.RowKit Go.Rx Go.ChangeAt
set_option linter.unusedVariables false
theorem gSyn : Go.Proofs.Tryd.prog.globalNamed "strconv.ErrSyntax" = some 1 := by kernel_rfl
theorem gRng : Go.Proofs.Tryd.prog.globalNamed "strconv.ErrRange" = some 2 := by kernel_rfl
theorem gTab : Go.Proofs.Tryd.prog.globalNamed "internal/strconv.uint64pow10" = some 3 := by kernel_rfl
theorem gSynT : (Go.Proofs.Tryd.prog.globals[1]?).map (·.type) = some 68 := by kernel_rfl
theorem gRngT : (Go.Proofs.Tryd.prog.globals[2]?).map (·.type) = some 68 := by kernel_rfl
theorem gTabT : (Go.Proofs.Tryd.prog.globals[3]?).map (·.type) = some 135 := by kernel_rfl
theorem cells146 : Go.Proofs.Tryd.prog.cellsOf 146 = 1 := by kernel_rfl
theorem cells9 : Go.Proofs.Tryd.prog.cellsOf 9 = 1 := by kernel_rfl
theorem cells25 : Go.Proofs.Tryd.prog.cellsOf 25 = 1 := by kernel_rfl
theorem cells135 : Go.Proofs.Tryd.prog.cellsOf 135 = 20 := by kernel_rfl
theorem starErr : "*" ++ "errors.errorString" = "*errors.errorString" := by decide
theorem rowErr (u : TypeId) (h : Go.Proofs.Tryd.prog.typeName? 3 u = some "*errors.errorString") : u = 144 :=
  typeName_ptr_named (nm := "errors.errorString") (by rw [starErr]; kernel_rfl) (by kernel_rfl) (by decide) u (by rw [starErr]; exact h)
/-- What the rows of this seat list. -/
def theLaid : List (String × DataW Unit) := [("math/bits.deBruijn32tab", Rows.laid_math_bits_deBruijn32tab), ("math/bits.deBruijn64tab", Rows.laid_math_bits_deBruijn64tab), ("internal/strconv.uint64pow10", Rows.laid_internal_strconv_uint64pow10), ("strconv.ErrRange", Rows.laid_strconv_ErrRange), ("strconv.ErrSyntax", Rows.laid_strconv_ErrSyntax)]
theorem laid_of_met {W : World} (h : laidMet Go.Proofs.Tryd.prog theLaid W) : Laid W := by
  have h3 := h.tail.tail
  have hT : Lib.TabIs Go.Proofs.Tryd.prog W "internal/strconv.uint64pow10" .u64 Lib.pow10Tab := Lib.tabIs_of_head (zs := Lib.pow10Tab) gTab gTabT Go.Proofs.Tryd.underlying135 Go.Proofs.Tryd.underlying25 cells25 cells135 h3
  obtain ⟨a0, s0, hv0, -, -, -⟩ := laid_sentinel h3.tail gRng gRngT Go.Proofs.Tryd.underlying68 rowErr Go.Proofs.Tryd.underlying144 Go.Proofs.Tryd.underlying146 rfl rfl Go.Proofs.Tryd.underlying9 cells146 cells9
  obtain ⟨a1, s1, hv1, -, -, -⟩ := laid_sentinel h3.tail.tail gSyn gSynT Go.Proofs.Tryd.underlying68 rowErr Go.Proofs.Tryd.underlying144 Go.Proofs.Tryd.underlying146 rfl rfl Go.Proofs.Tryd.underlying9 cells146 cells9
  exact ⟨hT, ⟨_, _, hv1⟩, ⟨_, _, hv0⟩⟩
theorem met_plain {W : World} (h : laidMetH Go.Proofs.Tryd.prog theLaid W) : laidMet Go.Proofs.Tryd.prog theLaid W := h
end Go.Proofs.YtcggppjpnepoiaaDoor
namespace Go.Proofs.YtcggppjpnepoiaaDoor
open Go Go.RowKit Go.Rx Go.ChangeAt
theorem Tryd.own : ownKnob Go.Proofs.Tryd.prog.godebug = none := by kernel_rfl
theorem Tryd.laidOut : laidOutB Go.Proofs.Tryd.prog = true := by kernel_rfl
/-- A listed row of numbers as cells. -/
def tabCells : DataW Unit → Array Value
  | .agg l => (l.map fun
    | .lit (.int k n) => Value.int k n
    | _ => .nilIface).toArray
  | _ => #[]
def synS : ByteArray := { data := #[105, 110, 118, 97, 108, 105, 100, 32, 115, 121, 110, 116, 97, 120] }
def rngS : ByteArray := { data := #[118, 97, 108, 117, 101, 32, 111, 117, 116, 32, 111, 102, 32, 114, 97, 110, 103, 101] }
/-- So many blocks has the settled world. -/
noncomputable def low : Nat := (World.holding Go.Proofs.Tryd.prog default ⟨#[], #[], []⟩).heap.size
def setC (cs : Array Value) : Obj → Obj
  | .cells _ t frozen => .cells cs t frozen
  | o => o
/-- A settled world that holds what the rows list. -/
noncomputable def laidWorld (os : Os) : World :=
  let w0 := World.holding Go.Proofs.Tryd.prog os ⟨#[.cells #[.string synS] 146, .cells #[.string rngS] 146], #[], []⟩
  { w0 with heap := ((((w0.heap.modify 1 (setC #[.iface 144 (.pointer (some ⟨low, 0, none⟩))])).modify 2 (setC #[.iface 144 (.pointer (some ⟨low + 1, 0, none⟩))])).modify 3 (setC (tabCells Rows.laid_internal_strconv_uint64pow10))).modify 4 (setC (tabCells Rows.laid_math_bits_deBruijn32tab))).modify 5 (setC (tabCells Rows.laid_math_bits_deBruijn64tab)) }
theorem laidWorld_met (os : Os) (args : Array Value) : laidMetH Go.Proofs.Tryd.prog theLaid ((laidWorld os).forCall (fun _ _ => 0) ⟨#[], args, []⟩).memory :=
  show laidMet Go.Proofs.Tryd.prog theLaid _ from laidMet_of_run' 8 (by kernel_rfl) (by kernel_rfl)
end Go.Proofs.YtcggppjpnepoiaaDoor
