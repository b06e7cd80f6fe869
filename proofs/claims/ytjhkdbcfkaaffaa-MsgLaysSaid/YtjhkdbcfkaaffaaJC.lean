/- How an argument is opened that is a slice whose elements are one cell each. -/
import Derived.Test.YtjhkdbcfkaaffaaRdE
import Derived.Lib.SmallJoins
import Derived.Test.YtjhkdbcfkaaffaaKeyL
namespace Go.Proofs.Ytjhkdbcfkaaffaa
open Go.RowKit Go.ChangeShapes Go.WideShapes Go.Deep
set_option linter.unusedVariables false
section
variable {H : Type} {enc : TypeId × Value → H} {P : Program} {w : World} {base : Nat} {spare : Nat → Bool} {held : Bool}
set_option maxRecDepth 100000 in
theorem open_rd1 {α : Type} (en : α → Value) (good : α → Prop) (hinh : Nonempty α) {t e : TypeId} {d : DataW H} {p : List MemPlace} (ht : P.underlying t = some (.slice e)) (hc : P.cellsOf e = 1) {a : Option Addr} {len cap : Nat}
    (dec : ∀ v (n : Nat) (y : DataW H × List MemPlace), DataW.trod enc P w base spare held n e [v] = some y → ∃ x : α, good x ∧ v = en x)
    (h : DataW.Trod enc P w base spare held t (.slice a len cap) d p) : ∃ l : List α, Rd w a len cap (l.map en) ∧ ∀ x ∈ l, good x := by
  obtain ⟨fuel, hf⟩ := h
  rcases open_slice1 ht hc hf with ⟨hcs, _⟩ | ⟨ad, len', cap', m, n, V, D, Pl, hcs, _, hl, hm, hmm, _, hi⟩
  · simp [Value.cells] at hcs
    obtain ⟨rfl, rfl, rfl⟩ := hcs
    exact ⟨[], rd_nil _ _ rfl, by simp⟩
  · simp [Value.cells] at hcs
    obtain ⟨rfl, rfl, rfl⟩ := hcs
    have hlm : len ≤ m := by rw [hmm]; split <;> omega
    have hex' : ∀ i, ∃ x : α, i < len → good x ∧ w.cell? (ad.add i) = some (en x) := by
      intro i
      by_cases hil : i < len
      · obtain ⟨h1, h2⟩ := hi i (by omega)
        obtain ⟨x, hg, hx⟩ := dec _ _ _ h2
        exact ⟨x, fun _ => ⟨hg, by rw [h1, hx]⟩⟩
      · obtain ⟨x⟩ := hinh; exact ⟨x, fun h => absurd h hil⟩
    obtain ⟨g, hg⟩ := Classical.axiomOfChoice hex'
    refine ⟨(List.range len).map g, ⟨by simp, hl, hm, by simp, fun i hil => ?_⟩, fun x hx => ?_⟩
    · obtain ⟨b, off, spot⟩ := ad
      have hcell := (hg i hil).2
      have hc0 := (hg 0 (by omega)).2
      have hspot : spot = none := by simpa [Addr.add] using World.cell?_spot hc0
      subst hspot
      have hlt := cell?_lt hc0
      rw [Addr.add_lit] at hlt
      refine ⟨b, off, rfl, hlt, ?_⟩
      rw [Addr.add_lit] at hcell
      rw [hcell]; simp [hil]
    · simp only [List.mem_map, List.mem_range] at hx
      obtain ⟨i, hi', rfl⟩ := hx
      exact (hg i hi').1
set_option maxRecDepth 100000 in
theorem open_ints64 {t e : TypeId} {d : DataW H} {p : List MemPlace} (ht : P.underlying t = some (.slice e)) (he : P.underlying e = some (.int .i64)) (hc : P.cellsOf e = 1) {a : Option Addr} {len cap : Nat}
    (h : DataW.Trod enc P w base spare held t (.slice a len cap) d p) : ∃ l : List Int, Rd w a len cap (l.map (Value.int .i64)) ∧ ∀ n ∈ l, -9223372036854775808 ≤ n ∧ n ≤ 9223372036854775807 :=
  open_rd1 (Value.int .i64) _ ⟨0⟩ ht hc (fun v n y h => by
    obtain ⟨b, e0, _, g⟩ := DataW.trod_int he h
    simp at e0
    exact ⟨b, bounds_i64 g, e0⟩) h
set_option maxRecDepth 100000 in
theorem open_bools {t e : TypeId} {d : DataW H} {p : List MemPlace} (ht : P.underlying t = some (.slice e)) (he : P.underlying e = some .bool) (hc : P.cellsOf e = 1) {a : Option Addr} {len cap : Nat}
    (h : DataW.Trod enc P w base spare held t (.slice a len cap) d p) : ∃ l : List Bool, Rd w a len cap (l.map Value.bool) ∧ ∀ n ∈ l, True :=
  open_rd1 Value.bool _ ⟨false⟩ ht hc (fun v n y h => by
    obtain ⟨b, e0, _⟩ := DataW.trod_bool he h
    simp at e0
    exact ⟨b, trivial, e0⟩) h
set_option maxRecDepth 100000 in
theorem open_texts {t e : TypeId} {d : DataW H} {p : List MemPlace} (ht : P.underlying t = some (.slice e)) (he : P.underlying e = some .string) (hc : P.cellsOf e = 1) {a : Option Addr} {len cap : Nat}
    (h : DataW.Trod enc P w base spare held t (.slice a len cap) d p) : ∃ l : List ByteArray, Rd w a len cap (l.map Value.string) ∧ ∀ s ∈ l, s.size ≤ maxLen :=
  open_rd1 Value.string _ ⟨ByteArray.empty⟩ ht hc (fun v n y h => by
    obtain ⟨b, e0, _, g⟩ := DataW.trod_string he h
    simp at e0
    exact ⟨b, g, e0⟩) h
end
end Go.Proofs.Ytjhkdbcfkaaffaa
/- How arguments are opened: a slice of elements of any shape; a struct of one-cell fields by value. -/
namespace Go.Proofs.Ytjhkdbcfkaaffaa
open Go.RowKit Go.ChangeShapes Go.WideShapes Go.Deep Go.Joins
set_option linter.unusedVariables false
section
variable {H : Type} {enc : TypeId × Value → H} {P : Program} {w : World} {base : Nat} {spare : Nat → Bool} {held : Bool}
set_option maxRecDepth 100000 in
theorem open_rdG {α : Type} (en : α → List Value) (size : Nat) (hinh : Nonempty α) {t e : TypeId} {d : DataW H} {p : List MemPlace} (ht : P.underlying t = some (.slice e)) (hC : P.cellsOf e = size) (hsp : size ≠ 0) {a : Option Addr} {len cap : Nat} (good : α → Prop)
    (dec : ∀ (cs : List Value) (n : Nat) (y : DataW H × List MemPlace), cs.length = size → DataW.trod enc P w base spare held n e cs = some y → ∃ x : α, good x ∧ en x = cs)
    (h : DataW.Trod enc P w base spare held t (.slice a len cap) d p) : ∃ l : List α, RdE en size w a len cap l ∧ ∀ x ∈ l, good x := by
  obtain ⟨fuel, hf⟩ := h
  rcases open_slice ht hf with ⟨hcs, _⟩ | ⟨ad, len', cap', m, n, D, Pl, hcs, _, hl, hm, hmm, _, hi⟩
  · simp [Value.cells] at hcs
    obtain ⟨rfl, rfl, rfl⟩ := hcs
    exact ⟨[], ⟨rfl, Nat.le_refl _, by unfold maxLen; omega, fun _ => rfl, fun i x hx => by simp at hx⟩, by simp⟩
  · simp [Value.cells] at hcs
    obtain ⟨rfl, rfl, rfl⟩ := hcs
    have hlm : len ≤ m := by rw [hmm]; split <;> omega
    rw [hC] at hi
    have hex : ∀ i, i < len → ∃ x : α, good x ∧ ∀ j, j < size → w.cell? (ad.add (i * size + j)) = (en x)[j]? := by
      intro i hil
      obtain ⟨cs', hc, ht'⟩ := hi i (by omega)
      obtain ⟨_, hcl, hat⟩ := World.cells?_some hc
      obtain ⟨x, hg, hx⟩ := dec cs' n _ hcl ht'
      refine ⟨x, hg, fun j hj => ?_⟩
      rw [← Go.Deep.add_add, hat j hj, hx]
    have hchoose : ∃ g : Nat → α, ∀ i, i < len → good (g i) ∧ ∀ j, j < size → w.cell? (ad.add (i * size + j)) = (en (g i))[j]? := by
      have hex' : ∀ i, ∃ x : α, i < len → good x ∧ ∀ j, j < size → w.cell? (ad.add (i * size + j)) = (en x)[j]? := by
        intro i
        by_cases hil : i < len
        · obtain ⟨x, hx⟩ := hex i hil; exact ⟨x, fun _ => hx⟩
        · obtain ⟨x⟩ := hinh; exact ⟨x, fun h => absurd h hil⟩
      exact Classical.axiomOfChoice hex'
    obtain ⟨g, hg⟩ := hchoose
    refine ⟨(List.range len).map g, ⟨by simp, hl, hm, by simp, fun i x hx => ?_⟩, fun x hx => ?_⟩
    · have hil : i < len := by
        have := (List.getElem?_eq_some_iff.1 hx).1; simpa using this
      have hx' : x = g i := by simp [hil] at hx; exact hx.symm
      subst hx'
      obtain ⟨b, off, spot⟩ := ad
      have hcell := (hg i hil).2
      obtain ⟨v0, hv0⟩ : ∃ v0, w.cell? (({ block := b, off := off, spot := spot } : Addr).add (0 * size + 0)) = some v0 := by
        obtain ⟨cs', hc, ht'⟩ := hi 0 (by omega)
        obtain ⟨_, hcl, hat⟩ := World.cells?_some hc
        have := hat 0 (by omega)
        rw [Go.Deep.add_add] at this
        exact ⟨cs'[0]'(by omega), by rw [this]; exact List.getElem?_eq_getElem (by omega)⟩
      have hspot : spot = none := by simpa [Addr.add] using World.cell?_spot hv0
      subst hspot
      have hlt := cell?_lt hv0
      rw [Addr.add_lit] at hlt
      refine ⟨b, off, rfl, hlt, fun j hj => ?_⟩
      have := hcell j hj
      rw [Addr.add_lit] at this
      rw [← this, Nat.add_assoc]
    · simp only [List.mem_map, List.mem_range] at hx
      obtain ⟨i, hi', rfl⟩ := hx
      exact (hg i hi').1
set_option maxRecDepth 100000 in
/-- a struct of one-cell fields, by value -/
theorem open_aggn {b0 : Nat} {r : Reach} {t : TypeId} {fs : Array Field} {v : Value} {d : DataW H} {p : List MemPlace} (hs : P.underlying t = some (.struct fs)) (hone : oneCellFields P fs = true) (hC : P.cellsOf t = fs.size)
    (hv : Value.okWide P w r b0 t v) (h : DataW.Trod enc P w base spare held t v d p) :
    ∃ cs : Array Value, v = .agg cs ∧ cs.size = fs.size ∧ ∀ (j : Nat) (f : Field), fs[j]? = some f → ∃ (u : Value) (n : Nat) (y : DataW H × List MemPlace), cs[j]? = some u ∧ DataW.trod enc P w base spare held n f.type [u] = some y := by
  obtain ⟨cs, rfl, hsz⟩ := okWide_struct hs hv
  obtain ⟨fuel, hf⟩ := h
  obtain ⟨xs, n, _, _, hl, hlen, hff⟩ := DataW.trod_struct hs hf
  refine ⟨cs, rfl, hsz.trans hC, fun j f hj => ?_⟩
  have hjs : j < fs.size := (Array.getElem?_eq_some_iff.1 hj).1
  have hjc : j < cs.size := by rw [hsz.trans hC]; exact hjs
  obtain ⟨o0, k0⟩ := hone_of hone j f hj
  have h1 := hff j f hj
  obtain ⟨y, hy⟩ : ∃ y, xs[j]? = some y := ⟨_, List.getElem?_eq_getElem (show j < xs.length by rw [hlen]; simpa using hjs)⟩
  have e : ((Value.agg cs).cells.toList.drop f.offset).take (P.cellsOf f.type) = [cs[j]] := by
    rw [o0, k0]
    simp only [Value.cells]
    rw [List.drop_eq_getElem_cons (by simpa using hjc)]
    simp
  rw [e] at h1
  exact ⟨cs[j], n, y, Array.getElem?_eq_getElem hjc, h1.trans hy⟩
set_option maxRecDepth 100000 in
theorem arr12 {α : Type} {cs : Array α} (h : cs.size = 12) : ∃ c0 c1 c2 c3 c4 c5 c6 c7 c8 c9 c10 c11, cs = #[c0, c1, c2, c3, c4, c5, c6, c7, c8, c9, c10, c11] := by
  obtain ⟨l⟩ := cs
  match l, h with
  | [c0, c1, c2, c3, c4, c5, c6, c7, c8, c9, c10, c11], _ => exact ⟨c0, c1, c2, c3, c4, c5, c6, c7, c8, c9, c10, c11, rfl⟩
set_option maxRecDepth 100000 in
theorem list12 {α : Type} {cs : List α} (h : cs.length = 12) : ∃ c0 c1 c2 c3 c4 c5 c6 c7 c8 c9 c10 c11, cs = [c0, c1, c2, c3, c4, c5, c6, c7, c8, c9, c10, c11] := by
  match cs, h with
  | [c0, c1, c2, c3, c4, c5, c6, c7, c8, c9, c10, c11], _ => exact ⟨c0, c1, c2, c3, c4, c5, c6, c7, c8, c9, c10, c11, rfl⟩
set_option maxRecDepth 100000 in
theorem list3 {α : Type} {cs : List α} (h : cs.length = 3) : ∃ c0 c1 c2, cs = [c0, c1, c2] := by
  match cs, h with
  | [c0, c1, c2], _ => exact ⟨c0, c1, c2, rfl⟩
end
end Go.Proofs.Ytjhkdbcfkaaffaa
/- Items and queries, as they come in. -/
namespace Go.Proofs.Ytjhkdbcfkaaffaa
open Go.RowKit Go.ChangeShapes Go.WideShapes Go.Deep Go.Joins
set_option linter.unusedVariables false
section
variable {H : Type} {enc : TypeId × Value → H} {w : World} {base : Nat} {spare : Nat → Bool} {held : Bool}
set_option maxRecDepth 100000 in
theorem arr2 {α : Type} {cs : Array α} (h : cs.size = 2) : ∃ c0 c1, cs = #[c0, c1] := by
  obtain ⟨l⟩ := cs
  match l, h with
  | [c0, c1], _ => exact ⟨c0, c1, rfl⟩
set_option maxRecDepth 100000 in
theorem arr3 {α : Type} {cs : Array α} (h : cs.size = 3) : ∃ c0 c1 c2, cs = #[c0, c1, c2] := by
  obtain ⟨l⟩ := cs
  match l, h with
  | [c0, c1, c2], _ => exact ⟨c0, c1, c2, rfl⟩
set_option maxRecDepth 100000 in
theorem open_item {b0 : Nat} {r : Reach} {v : Value} {d : DataW H} {p : List MemPlace} (hv : Value.okWide Try.prog w r b0 27 v) (h : DataW.Trod enc Try.prog w base spare held 27 v d p) :
    ∃ x : KeyL, v = .agg #[.int .i64 x.1, .string x.2] ∧ x.2.size ≤ maxLen := by
  obtain ⟨cs, rfl, hsz, hf⟩ := open_aggn Try.underlying27 (by kernel_rfl) (by kernel_rfl) hv h
  obtain ⟨c0, c1, rfl⟩ := arr2 hsz
  obtain ⟨u0, n0, y0, g0, h0⟩ := hf 0 _ rfl
  obtain ⟨u1, n1, y1, g1, h1⟩ := hf 1 _ rfl
  simp at g0 g1
  subst g0 g1
  obtain ⟨b0, e0, _, _⟩ := DataW.trod_int Try.underlying3 h0
  obtain ⟨b1, e1, _, g1⟩ := DataW.trod_string Try.underlying9 h1
  simp at e0 e1
  subst e0 e1
  exact ⟨(b0, b1), rfl, g1⟩
set_option maxRecDepth 100000 in
theorem open_items {d : DataW H} {p : List MemPlace} {a : Option Addr} {len cap : Nat}
    (h : DataW.Trod enc Try.prog w base spare held 30 (.slice a len cap) d p) : ∃ l : List KeyL, RdE KeyL.cells 2 w a len cap l ∧ ∀ x ∈ l, x.2.size ≤ maxLen := by
  refine open_rdE KeyL.cells ⟨(0, ⟨#[]⟩)⟩ Try.underlying30 Try.underlying27 (by kernel_rfl) (by kernel_rfl) (fun x => x.2.size ≤ maxLen) ?_ h (by decide)
  intro vs hv
  obtain ⟨n0, y0, h0⟩ := hv 0 _ rfl
  obtain ⟨n1, y1, h1⟩ := hv 1 _ rfl
  obtain ⟨b0, e0, _, g0⟩ := DataW.trod_int Try.underlying3 h0
  obtain ⟨b1, e1, _, g1⟩ := DataW.trod_string Try.underlying9 h1
  simp at e0 e1
  refine ⟨(b0, b1), g1, fun j hj => ?_⟩
  have hj4 : j < 2 := hj
  match j, hj4 with
  | 0, _ => simp [KeyL.cells, e0]
  | 1, _ => simp [KeyL.cells, e1]
end
end Go.Proofs.Ytjhkdbcfkaaffaa
/- The five messages of chapter 15, as they come in by value. -/
namespace Go.Proofs.Ytjhkdbcfkaaffaa
open Go.RowKit Go.ChangeShapes Go.WideShapes Go.Deep Go.Joins
set_option linter.unusedVariables false
set_option maxRecDepth 100000 in
theorem wf_rng {k : Int} (h : (Lit.int .i64 k).wf = true) : -9223372036854775808 ≤ k ∧ k ≤ 9223372036854775807 := by
  have e : (Lit.int .i64 k).wf = (decide (IntKind.i64.min ≤ k) && decide (k ≤ IntKind.i64.max)) := rfl
  rw [e, show IntKind.i64.min = -9223372036854775808 from by decide, show IntKind.i64.max = 9223372036854775807 from by decide] at h
  simpa using h
section
variable {H : Type} {enc : TypeId × Value → H} {w : World} {base : Nat} {spare : Nat → Bool} {held : Bool}
set_option maxRecDepth 100000 in
theorem slice_shape {t e : TypeId} {fuel : Nat} {v : Value} {x : DataW H × List MemPlace} (ht : Try.prog.underlying t = some (.slice e)) (h : DataW.trod enc Try.prog w base spare held fuel t [v] = some x) : ∃ (a : Option Addr) (len cap : Nat), v = .slice a len cap := by
  rcases DataW.trod_slice ht h with ⟨e1, _⟩ | ⟨a, len, cap, _, _, _, _, e1, _⟩
  · simp at e1; exact ⟨none, 0, 0, e1⟩
  · simp at e1; exact ⟨some a, len, cap, e1⟩
set_option maxRecDepth 100000 in
theorem arrM2 {α : Type} {cs : Array α} (h : cs.size = 2) : ∃ c0 c1, cs = #[c0, c1] := by
  obtain ⟨l⟩ := cs
  match l, h with
  | [c0, c1], _ => exact ⟨c0, c1, rfl⟩
set_option maxRecDepth 100000 in
theorem arrM3 {α : Type} {cs : Array α} (h : cs.size = 3) : ∃ c0 c1 c2, cs = #[c0, c1, c2] := by
  obtain ⟨l⟩ := cs
  match l, h with
  | [c0, c1, c2], _ => exact ⟨c0, c1, c2, rfl⟩
set_option maxRecDepth 100000 in
theorem arrM8 {α : Type} {cs : Array α} (h : cs.size = 8) : ∃ c0 c1 c2 c3 c4 c5 c6 c7, cs = #[c0, c1, c2, c3, c4, c5, c6, c7] := by
  obtain ⟨l⟩ := cs
  match l, h with
  | [c0, c1, c2, c3, c4, c5, c6, c7], _ => exact ⟨c0, c1, c2, c3, c4, c5, c6, c7, rfl⟩
set_option maxRecDepth 100000 in
theorem arrM11 {α : Type} {cs : Array α} (h : cs.size = 11) : ∃ c0 c1 c2 c3 c4 c5 c6 c7 c8 c9 c10, cs = #[c0, c1, c2, c3, c4, c5, c6, c7, c8, c9, c10] := by
  obtain ⟨l⟩ := cs
  match l, h with
  | [c0, c1, c2, c3, c4, c5, c6, c7, c8, c9, c10], _ => exact ⟨c0, c1, c2, c3, c4, c5, c6, c7, c8, c9, c10, rfl⟩
set_option maxRecDepth 100000 in
theorem open_hello {b0 : Nat} {r : Reach} {v : Value} {d : DataW H} {p : List MemPlace} (hv : Value.okWide Try.prog w r b0 23 v) (h : DataW.Trod enc Try.prog w base spare held 23 v d p) :
    ∃ (x0 : Int) (x1 : Int), v = .agg #[.int .i64 x0, .int .i64 x1] := by
  obtain ⟨cs, rfl, hsz, hf⟩ := open_aggn Try.underlying23 (by kernel_rfl) (by kernel_rfl) hv h
  obtain ⟨c0, c1, rfl⟩ := arrM2 hsz
  obtain ⟨u0, n0, y0, g0, h0⟩ := hf 0 _ rfl
  obtain ⟨u1, n1, y1, g1, h1⟩ := hf 1 _ rfl
  simp at g0 g1
  subst g0 g1
  obtain ⟨x0, e0, _, _⟩ := DataW.trod_int Try.underlying3 h0
  obtain ⟨x1, e1, _, _⟩ := DataW.trod_int Try.underlying3 h1
  simp at e0 e1
  subst e0 e1
  exact ⟨x0, x1, rfl⟩
set_option maxRecDepth 100000 in
theorem open_grant {b0 : Nat} {r : Reach} {v : Value} {d : DataW H} {p : List MemPlace} (hv : Value.okWide Try.prog w r b0 25 v) (h : DataW.Trod enc Try.prog w base spare held 25 v d p) :
    ∃ (x0 : Int) (x1 : Int) (x2 : Int), v = .agg #[.int .i64 x0, .int .i64 x1, .int .i64 x2] := by
  obtain ⟨cs, rfl, hsz, hf⟩ := open_aggn Try.underlying25 (by kernel_rfl) (by kernel_rfl) hv h
  obtain ⟨c0, c1, c2, rfl⟩ := arrM3 hsz
  obtain ⟨u0, n0, y0, g0, h0⟩ := hf 0 _ rfl
  obtain ⟨u1, n1, y1, g1, h1⟩ := hf 1 _ rfl
  obtain ⟨u2, n2, y2, g2, h2⟩ := hf 2 _ rfl
  simp at g0 g1 g2
  subst g0 g1 g2
  obtain ⟨x0, e0, _, _⟩ := DataW.trod_int Try.underlying3 h0
  obtain ⟨x1, e1, _, _⟩ := DataW.trod_int Try.underlying3 h1
  obtain ⟨x2, e2, _, _⟩ := DataW.trod_int Try.underlying3 h2
  simp at e0 e1 e2
  subst e0 e1 e2
  exact ⟨x0, x1, x2, rfl⟩
set_option maxRecDepth 100000 in
theorem open_stop {b0 : Nat} {r : Reach} {v : Value} {d : DataW H} {p : List MemPlace} (hv : Value.okWide Try.prog w r b0 34 v) (h : DataW.Trod enc Try.prog w base spare held 34 v d p) :
    ∃ (x0 : Int) (x1 : Int), v = .agg #[.int .i64 x0, .int .i64 x1] := by
  obtain ⟨cs, rfl, hsz, hf⟩ := open_aggn Try.underlying34 (by kernel_rfl) (by kernel_rfl) hv h
  obtain ⟨c0, c1, rfl⟩ := arrM2 hsz
  obtain ⟨u0, n0, y0, g0, h0⟩ := hf 0 _ rfl
  obtain ⟨u1, n1, y1, g1, h1⟩ := hf 1 _ rfl
  simp at g0 g1
  subst g0 g1
  obtain ⟨x0, e0, _, _⟩ := DataW.trod_int Try.underlying3 h0
  obtain ⟨x1, e1, _, _⟩ := DataW.trod_int Try.underlying3 h1
  simp at e0 e1
  subst e0 e1
  exact ⟨x0, x1, rfl⟩
set_option maxRecDepth 100000 in
theorem open_reply {b0 : Nat} {r : Reach} {v : Value} {d : DataW H} {p : List MemPlace} (hv : Value.okWide Try.prog w r b0 32 v) (h : DataW.Trod enc Try.prog w base spare held 32 v d p) :
    ∃ (x0 : Int) (x1 : Int) (x2 : Int) (x3 : Int) (x4 : Int) (x5 : Int) (a : Option Addr) (c : Nat) (l : List KeyL) (x7 : Bool), v = .agg #[.int .i64 x0, .int .i64 x1, .int .i64 x2, .int .i64 x3, .int .i64 x4, .int .i64 x5, .slice a l.length c, .bool x7] ∧ RdE KeyL.cells 2 w a l.length c l ∧ ∀ x ∈ l, x.2.size ≤ maxLen := by
  obtain ⟨cs, rfl, hsz, hf⟩ := open_aggn Try.underlying32 (by kernel_rfl) (by kernel_rfl) hv h
  obtain ⟨c0, c1, c2, c3, c4, c5, c6, c7, rfl⟩ := arrM8 hsz
  obtain ⟨u0, n0, y0, g0, h0⟩ := hf 0 _ rfl
  obtain ⟨u1, n1, y1, g1, h1⟩ := hf 1 _ rfl
  obtain ⟨u2, n2, y2, g2, h2⟩ := hf 2 _ rfl
  obtain ⟨u3, n3, y3, g3, h3⟩ := hf 3 _ rfl
  obtain ⟨u4, n4, y4, g4, h4⟩ := hf 4 _ rfl
  obtain ⟨u5, n5, y5, g5, h5⟩ := hf 5 _ rfl
  obtain ⟨u6, n6, y6, g6, h6⟩ := hf 6 _ rfl
  obtain ⟨u7, n7, y7, g7, h7⟩ := hf 7 _ rfl
  simp at g0 g1 g2 g3 g4 g5 g6 g7
  subst g0 g1 g2 g3 g4 g5 g6 g7
  obtain ⟨x0, e0, _, _⟩ := DataW.trod_int Try.underlying3 h0
  obtain ⟨x1, e1, _, _⟩ := DataW.trod_int Try.underlying3 h1
  obtain ⟨x2, e2, _, _⟩ := DataW.trod_int Try.underlying3 h2
  obtain ⟨x3, e3, _, _⟩ := DataW.trod_int Try.underlying3 h3
  obtain ⟨x4, e4, _, _⟩ := DataW.trod_int Try.underlying3 h4
  obtain ⟨x5, e5, _, _⟩ := DataW.trod_int Try.underlying3 h5
  obtain ⟨a, len, cap, e6⟩ := slice_shape Try.underlying30 h6
  obtain ⟨x7, e7, _⟩ := DataW.trod_bool Try.underlying4 h7
  simp at e0 e1 e2 e3 e4 e5 e7
  subst e0 e1 e2 e3 e4 e5 e6 e7
  obtain ⟨l, hl, hz⟩ := open_items (d := y6.1) (p := y6.2) ⟨n6, by simpa [Value.cells] using h6⟩
  obtain rfl := hl.1
  exact ⟨x0, x1, x2, x3, x4, x5, a, cap, l, x7, rfl, hl, hz⟩
set_option maxRecDepth 100000 in
theorem open_ask {b0 : Nat} {r : Reach} {v : Value} {d : DataW H} {p : List MemPlace} (hv : Value.okWide Try.prog w r b0 29 v) (h : DataW.Trod enc Try.prog w base spare held 29 v d p) :
    ∃ (x0 : Int) (x1 : Int) (x2 : Int) (x3 : Int) (x4 : Int) (x5 : ByteArray) (x6 : Int) (x7 : Int) (x8 : Bool) (x9 : Int) (x10 : ByteArray), v = .agg #[.int .i64 x0, .int .i64 x1, .int .i64 x2, .int .i64 x3, .int .i64 x4, .string x5, .int .i64 x6, .int .i64 x7, .bool x8, .int .i64 x9, .string x10] ∧ x5.size ≤ maxLen ∧ x10.size ≤ maxLen := by
  obtain ⟨cs, rfl, hsz⟩ := okWide_struct Try.underlying29 hv
  rw [show Try.prog.cellsOf 29 = 11 by kernel_rfl] at hsz
  obtain ⟨c0, c1, c2, c3, c4, c5, c6, c7, c8, c9, c10, rfl⟩ := arrM11 hsz
  obtain ⟨fuel, hf⟩ := h
  have zi : Try.prog.cellsOf 3 = 1 := by kernel_rfl
  have zb : Try.prog.cellsOf 4 = 1 := by kernel_rfl
  have zs : Try.prog.cellsOf 9 = 1 := by kernel_rfl
  have zm : Try.prog.cellsOf 27 = 2 := by kernel_rfl
  obtain ⟨xs, n, _, _, hl, hlen, hff⟩ := DataW.trod_struct Try.underlying29 hf
  have hlen10 : xs.length = 10 := hlen
  match xs, hlen10 with
  | [q0, q1, q2, q3, q4, q5, q6, q7, q8, q9], _ =>
    have h0 := hff 0 _ rfl
    have h1 := hff 1 _ rfl
    have h2 := hff 2 _ rfl
    have h3 := hff 3 _ rfl
    have h4 := hff 4 _ rfl
    have h5 := hff 5 _ rfl
    have h6 := hff 6 _ rfl
    have h7 := hff 7 _ rfl
    have h8 := hff 8 _ rfl
    have h9 := hff 9 _ rfl
    simp only [List.getElem_toArray, List.getElem_cons_zero, List.getElem_cons_succ, List.getElem?_cons_zero, List.getElem?_cons_succ] at h0 h1 h2 h3 h4 h5 h6 h7 h8 h9
    rw [zi] at h0
    rw [zi] at h1
    rw [zi] at h2
    rw [zi] at h3
    rw [zi] at h4
    rw [zs] at h5
    rw [zi] at h6
    rw [zi] at h7
    rw [zb] at h8
    rw [zm] at h9
    simp [Value.cells] at h0 h1 h2 h3 h4 h5 h6 h7 h8 h9
    obtain ⟨x0, e0, _, _⟩ := DataW.trod_int Try.underlying3 h0
    obtain ⟨x1, e1, _, _⟩ := DataW.trod_int Try.underlying3 h1
    obtain ⟨x2, e2, _, _⟩ := DataW.trod_int Try.underlying3 h2
    obtain ⟨x3, e3, _, _⟩ := DataW.trod_int Try.underlying3 h3
    obtain ⟨x4, e4, _, _⟩ := DataW.trod_int Try.underlying3 h4
    obtain ⟨x5, e5, _, hz5⟩ := DataW.trod_string Try.underlying9 h5
    obtain ⟨x6, e6, _, _⟩ := DataW.trod_int Try.underlying3 h6
    obtain ⟨x7, e7, _, _⟩ := DataW.trod_int Try.underlying3 h7
    obtain ⟨x8, e8, _⟩ := DataW.trod_bool Try.underlying4 h8
    obtain ⟨ys, n1, _, _, _, hly, hgg⟩ := DataW.trod_struct Try.underlying27 h9
    have hly2 : ys.length = 2 := hly
    match ys, hly2 with
    | [y0, y1], _ =>
      have g0 := hgg 0 _ rfl
      have g1 := hgg 1 _ rfl
      simp only [List.getElem_toArray, List.getElem_cons_zero, List.getElem_cons_succ, List.getElem?_cons_zero, List.getElem?_cons_succ] at g0 g1
      rw [zi] at g0
      rw [zs] at g1
      simp at g0 g1
      obtain ⟨x9, e9, _, _⟩ := DataW.trod_int Try.underlying3 g0
      obtain ⟨x10, e10, _, hz10⟩ := DataW.trod_string Try.underlying9 g1
      simp at e0 e1 e2 e3 e4 e5 e6 e7 e8 e9 e10
      subst e0 e1 e2 e3 e4 e5 e6 e7 e8 e9 e10
      exact ⟨x0, x1, x2, x3, x4, x5, x6, x7, x8, x9, x10, rfl, hz5, hz10⟩
end
end Go.Proofs.Ytjhkdbcfkaaffaa
