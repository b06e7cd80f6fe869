/- The acts of MergeScript, as they come in. -/
import Derived.Test.YtjacebnjmhbcbaaOpen22
import Derived.Test.YtjacebnjmhbcbaaItems
namespace Go.Proofs.Ytjacebnjmhbcbaa
open Go.RowKit Go.ChangeShapes Go.WideShapes Go.Deep Go.Joins
set_option linter.unusedVariables false

structure ActM where
  tl : Bool
  en : Bool
  sh : Int
  sq : Int
  a : Option Addr
  n : Nat
  cap : Nat
  l : List KeyL
def ActM.cells (x : ActM) : List Value := [.bool x.tl, .bool x.en, .int .i64 x.sh, .int .i64 x.sq, .slice x.a x.n x.cap]
set_option maxRecDepth 100000 in
theorem open_acts22 {H : Type} {enc : TypeId × Value → H} {w : World} {base : Nat} {spare : Nat → Bool} {held : Bool} {d : DataW H} {p : List MemPlace} {a : Option Addr} {len cap : Nat}
    (h : DataW.Trod enc Try.prog w base spare held 39 (.slice a len cap) d p) : ∃ l : List ActM, RdE ActM.cells 5 w a len cap l ∧ ∀ x ∈ l, RdE KeyL.cells 2 w x.a x.n x.cap x.l ∧ ∀ y ∈ x.l, y.2.size ≤ maxLen := by
  refine open_rdE ActM.cells ⟨⟨false, false, 0, 0, none, 0, 0, []⟩⟩ Try.underlying39 Try.underlying46 (by kernel_rfl) (by kernel_rfl) (fun x => RdE KeyL.cells 2 w x.a x.n x.cap x.l ∧ ∀ y ∈ x.l, y.2.size ≤ maxLen) ?_ h (by decide)
  intro vs hv
  obtain ⟨n0, y0, h0⟩ := hv 0 _ rfl
  obtain ⟨n1, y1, h1⟩ := hv 1 _ rfl
  obtain ⟨n2, y2, h2⟩ := hv 2 _ rfl
  obtain ⟨n3, y3, h3⟩ := hv 3 _ rfl
  obtain ⟨n4, y4, h4⟩ := hv 4 _ rfl
  obtain ⟨b0, e0, _⟩ := DataW.trod_bool Try.underlying4 h0
  obtain ⟨b1, e1, _⟩ := DataW.trod_bool Try.underlying4 h1
  obtain ⟨b2, e2, _, _⟩ := DataW.trod_int Try.underlying3 h2
  obtain ⟨b3, e3, _, _⟩ := DataW.trod_int Try.underlying3 h3
  obtain ⟨a4, k4, c4, e4⟩ := slice_form Try.underlying22 h4
  simp at e0 e1 e2 e3 e4
  rw [e4] at h4
  obtain ⟨l, hl, hz⟩ := open_items (d := y4.1) (p := y4.2) ⟨n4, by simpa [Value.cells] using h4⟩
  refine ⟨⟨b0, b1, b2, b3, a4, k4, c4, l⟩, ⟨hl, hz⟩, fun j hj => ?_⟩
  have hj5 : j < 5 := hj
  match j, hj5 with
  | 0, _ => simp [ActM.cells, e0]
  | 1, _ => simp [ActM.cells, e1]
  | 2, _ => simp [ActM.cells, e2]
  | 3, _ => simp [ActM.cells, e3]
  | 4, _ => simp [ActM.cells, e4]
end Go.Proofs.Ytjacebnjmhbcbaa
