/- The arguments of chapter 22's statements, as they come in. -/
import Derived.Test.YtjacebnjmhbcbaaLendI
import Derived.Lib.SmallJoins
namespace Go.Proofs.Ytjacebnjmhbcbaa
open Go.RowKit Go.ChangeShapes Go.WideShapes Go.Deep Go.Joins
set_option linter.unusedVariables false

theorem open_items {H : Type} {enc : TypeId × Value → H} {w : World} {base : Nat} {spare : Nat → Bool} {held : Bool} {d : DataW H} {p : List MemPlace} {a : Option Addr} {len cap : Nat}
    (h : DataW.Trod enc Try.prog w base spare held 22 (.slice a len cap) d p) : ∃ l : List KeyL, RdE KeyL.cells 2 w a len cap l ∧ ∀ x ∈ l, x.2.size ≤ maxLen := by
  refine open_rdE KeyL.cells ⟨(0, ⟨#[]⟩)⟩ Try.underlying22 Try.underlying31 (by kernel_rfl) (by kernel_rfl) (fun x => x.2.size ≤ maxLen) ?_ h (by decide)
  intro vs hv
  obtain ⟨n0, y0, h0⟩ := hv 0 _ rfl
  obtain ⟨n1, y1, h1⟩ := hv 1 _ rfl
  obtain ⟨b0, e0, _, g0⟩ := DataW.trod_int Try.underlying3 h0
  obtain ⟨b1, e1, _, g1⟩ := DataW.trod_string Try.underlying9 h1
  simp at e0 e1
  refine ⟨(b0, b1), g1, fun j hj => ?_⟩
  have hj4 : j < 2 := hj
  match j, hj4 with
  | 0, _ => simp [KeyL.cells, e0]
  | 1, _ => simp [KeyL.cells, e1]
/-- a struct of one-cell fields, by value -/
theorem open_aggn {H : Type} {enc : TypeId × Value → H} {P : Program} {w : World} {base b0 : Nat} {spare : Nat → Bool} {held : Bool} {r : Reach} {t : TypeId} {fs : Array Field} {v : Value} {d : DataW H} {p : List MemPlace} (hs : P.underlying t = some (.struct fs)) (hone : oneCellFields P fs = true) (hC : P.cellsOf t = fs.size)
    (hv : Value.okWide P w r b0 t v) (h : DataW.Trod enc P w base spare held t v d p) :
    ∃ cs : Array Value, v = .agg cs ∧ cs.size = fs.size ∧ ∀ (j : Nat) (f : Field), fs[j]? = some f → ∃ (u : Value) (n : Nat) (y : DataW H × List MemPlace), cs[j]? = some u ∧ DataW.trod enc P w base spare held n f.type [u] = some y := by
  obtain ⟨cs, rfl, hsz⟩ := okWide_struct hs hv
  obtain ⟨fuel, hf⟩ := h
  obtain ⟨xs, n, _, _, hl, hlen, hff⟩ := DataW.trod_struct hs hf
  refine ⟨cs, rfl, hsz.trans hC, fun j f hj => ?_⟩
  have hjs : j < fs.size := (Array.getElem?_eq_some_iff.1 hj).1
  have hjc : j < cs.size := by rw [hsz.trans hC]; exact hjs
  obtain ⟨o0, k0⟩ := hone_of hone j f hj
  have h1 := hff j f hj
  obtain ⟨y, hy⟩ : ∃ y, xs[j]? = some y := ⟨_, List.getElem?_eq_getElem (show j < xs.length by rw [hlen]; simpa using hjs)⟩
  have e : ((Value.agg cs).cells.toList.drop f.offset).take (P.cellsOf f.type) = [cs[j]] := by
    rw [o0, k0]
    simp only [Value.cells]
    rw [List.drop_eq_getElem_cons (by simpa using hjc)]
    simp
  rw [e] at h1
  exact ⟨cs[j], n, y, Array.getElem?_eq_getElem hjc, h1.trans hy⟩
theorem arr5 {α : Type} {cs : Array α} (h : cs.size = 5) : ∃ c0 c1 c2 c3 c4, cs = #[c0, c1, c2, c3, c4] := by
  obtain ⟨l⟩ := cs
  match l, h with
  | [c0, c1, c2, c3, c4], _ => exact ⟨c0, c1, c2, c3, c4, rfl⟩
set_option maxRecDepth 100000 in
theorem open_act22 {H : Type} {enc : TypeId × Value → H} {w : World} {base b0 : Nat} {spare : Nat → Bool} {held : Bool} {r : Reach} {v : Value} {d : DataW H} {p : List MemPlace} (hv : Value.okWide Try.prog w r b0 46 v) (h : DataW.Trod enc Try.prog w base spare held 46 v d p) :
    ∃ (tl en : Bool) (sh sq : Int) (a : Option Addr) (n cap : Nat) (l : List KeyL), v = .agg #[.bool tl, .bool en, .int .i64 sh, .int .i64 sq, .slice a n cap] ∧ RdE KeyL.cells 2 w a n cap l ∧ ∀ x ∈ l, x.2.size ≤ maxLen := by
  obtain ⟨cs, rfl, hsz, hf⟩ := open_aggn Try.underlying46 (by kernel_rfl) (by kernel_rfl) hv h
  obtain ⟨c0, c1, c2, c3, c4, rfl⟩ := arr5 hsz
  obtain ⟨u0, n0, y0, g0, h0⟩ := hf 0 _ rfl
  obtain ⟨u1, n1, y1, g1, h1⟩ := hf 1 _ rfl
  obtain ⟨u2, n2, y2, g2, h2⟩ := hf 2 _ rfl
  obtain ⟨u3, n3, y3, g3, h3⟩ := hf 3 _ rfl
  obtain ⟨u4, n4, y4, g4, h4⟩ := hf 4 _ rfl
  simp at g0 g1 g2 g3 g4
  subst g0 g1 g2 g3 g4
  obtain ⟨b0, e0, _⟩ := DataW.trod_bool Try.underlying4 h0
  obtain ⟨b1, e1, _⟩ := DataW.trod_bool Try.underlying4 h1
  obtain ⟨b2, e2, _, _⟩ := DataW.trod_int Try.underlying3 h2
  obtain ⟨b3, e3, _, _⟩ := DataW.trod_int Try.underlying3 h3
  simp at e0 e1 e2 e3
  subst e0 e1 e2 e3
  obtain ⟨a, n, c, e4⟩ := slice_form Try.underlying22 h4
  simp at e4
  subst e4
  obtain ⟨l, hl, hz⟩ := open_items (d := y4.1) (p := y4.2) ⟨n4, by simpa [Value.cells] using h4⟩
  exact ⟨b0, b1, b2, b3, a, n, c, l, rfl, hl, hz⟩
end Go.Proofs.Ytjacebnjmhbcbaa
