/- The acts of the statements on leases, as they come in. -/
import Derived.Test.YtnnkebhpmegkfaaLease6
import Derived.Test.YtnnkebhpmegkfaaRdE
namespace Go.Proofs.Ytnnkebhpmegkfaa
open Go.RowKit Go.ChangeShapes Go.WideShapes Go.Deep
set_option linter.unusedVariables false

structure ActL where
  seen : Bool
  v : Int
  n : Int
  t : Int
def ActL.cells (x : ActL) : List Value := [.bool x.seen, .int .i64 x.v, .int .i64 x.n, .int .i64 x.t]
def i64ok (n : Int) : Prop := -9223372036854775808 ≤ n ∧ n ≤ 9223372036854775807
def ActL.good (x : ActL) : Prop := i64ok x.v ∧ i64ok x.n ∧ i64ok x.t
theorem open_acts {H : Type} {enc : TypeId × Value → H} {w : World} {base : Nat} {spare : Nat → Bool} {held : Bool} {d : DataW H} {p : List MemPlace} {a : Option Addr} {len cap : Nat}
    (h : DataW.Trod enc Try.prog w base spare held 37 (.slice a len cap) d p) : ∃ l : List ActL, RdE ActL.cells 4 w a len cap l ∧ ∀ x ∈ l, x.good := by
  refine open_rdE ActL.cells ⟨⟨false, 0, 0, 0⟩⟩ Try.underlying37 Try.underlying43 (by kernel_rfl) (by kernel_rfl) ActL.good ?_ h (by decide)
  intro vs hv
  obtain ⟨n0, y0, h0⟩ := hv 0 _ rfl
  obtain ⟨n1, y1, h1⟩ := hv 1 _ rfl
  obtain ⟨n2, y2, h2⟩ := hv 2 _ rfl
  obtain ⟨n3, y3, h3⟩ := hv 3 _ rfl
  obtain ⟨b0, e0, _⟩ := DataW.trod_bool Try.underlying4 h0
  obtain ⟨b1, e1, _, g1⟩ := DataW.trod_int Try.underlying3 h1
  obtain ⟨b2, e2, _, g2⟩ := DataW.trod_int Try.underlying3 h2
  obtain ⟨b3, e3, _, g3⟩ := DataW.trod_int Try.underlying3 h3
  simp at e0 e1 e2 e3
  refine ⟨⟨b0, b1, b2, b3⟩, ⟨bounds_i64 g1, bounds_i64 g2, bounds_i64 g3⟩, fun j hj => ?_⟩
  have hj4 : j < 4 := hj
  match j, hj4 with
  | 0, _ => simp [ActL.cells, e0]
  | 1, _ => simp [ActL.cells, e1]
  | 2, _ => simp [ActL.cells, e2]
  | 3, _ => simp [ActL.cells, e3]
end Go.Proofs.Ytnnkebhpmegkfaa
