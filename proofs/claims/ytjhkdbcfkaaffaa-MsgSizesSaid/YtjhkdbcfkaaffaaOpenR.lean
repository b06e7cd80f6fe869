/- Items and queries, as they come in. -/
import Derived.Test.YtjhkdbcfkaaffaaOpenG
import Derived.Test.YtjhkdbcfkaaffaaKeyL
namespace Go.Proofs.Ytjhkdbcfkaaffaa
open Go.RowKit Go.ChangeShapes Go.WideShapes Go.Deep Go.Joins
set_option linter.unusedVariables false
section
variable {H : Type} {enc : TypeId × Value → H} {w : World} {base : Nat} {spare : Nat → Bool} {held : Bool}
set_option maxRecDepth 100000 in
theorem arr2 {α : Type} {cs : Array α} (h : cs.size = 2) : ∃ c0 c1, cs = #[c0, c1] := by
  obtain ⟨l⟩ := cs
  match l, h with
  | [c0, c1], _ => exact ⟨c0, c1, rfl⟩
set_option maxRecDepth 100000 in
theorem arr3 {α : Type} {cs : Array α} (h : cs.size = 3) : ∃ c0 c1 c2, cs = #[c0, c1, c2] := by
  obtain ⟨l⟩ := cs
  match l, h with
  | [c0, c1, c2], _ => exact ⟨c0, c1, c2, rfl⟩
set_option maxRecDepth 100000 in
theorem open_item {b0 : Nat} {r : Reach} {v : Value} {d : DataW H} {p : List MemPlace} (hv : Value.okWide Try.prog w r b0 27 v) (h : DataW.Trod enc Try.prog w base spare held 27 v d p) :
    ∃ x : KeyL, v = .agg #[.int .i64 x.1, .string x.2] ∧ x.2.size ≤ maxLen := by
  obtain ⟨cs, rfl, hsz, hf⟩ := open_aggn Try.underlying27 (by kernel_rfl) (by kernel_rfl) hv h
  obtain ⟨c0, c1, rfl⟩ := arr2 hsz
  obtain ⟨u0, n0, y0, g0, h0⟩ := hf 0 _ rfl
  obtain ⟨u1, n1, y1, g1, h1⟩ := hf 1 _ rfl
  simp at g0 g1
  subst g0 g1
  obtain ⟨b0, e0, _, _⟩ := DataW.trod_int Try.underlying3 h0
  obtain ⟨b1, e1, _, g1⟩ := DataW.trod_string Try.underlying9 h1
  simp at e0 e1
  subst e0 e1
  exact ⟨(b0, b1), rfl, g1⟩
set_option maxRecDepth 100000 in
theorem open_items {d : DataW H} {p : List MemPlace} {a : Option Addr} {len cap : Nat}
    (h : DataW.Trod enc Try.prog w base spare held 30 (.slice a len cap) d p) : ∃ l : List KeyL, RdE KeyL.cells 2 w a len cap l ∧ ∀ x ∈ l, x.2.size ≤ maxLen := by
  refine open_rdE KeyL.cells ⟨(0, ⟨#[]⟩)⟩ Try.underlying30 Try.underlying27 (by kernel_rfl) (by kernel_rfl) (fun x => x.2.size ≤ maxLen) ?_ h (by decide)
  intro vs hv
  obtain ⟨n0, y0, h0⟩ := hv 0 _ rfl
  obtain ⟨n1, y1, h1⟩ := hv 1 _ rfl
  obtain ⟨b0, e0, _, g0⟩ := DataW.trod_int Try.underlying3 h0
  obtain ⟨b1, e1, _, g1⟩ := DataW.trod_string Try.underlying9 h1
  simp at e0 e1
  refine ⟨(b0, b1), g1, fun j hj => ?_⟩
  have hj4 : j < 2 := hj
  match j, hj4 with
  | 0, _ => simp [KeyL.cells, e0]
  | 1, _ => simp [KeyL.cells, e1]
end
end Go.Proofs.Ytjhkdbcfkaaffaa
