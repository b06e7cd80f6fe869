/- Configurations and records, as they come in. -/
import Derived.Test.YtjdanngkmkgidaaOpenG
import Derived.Test.YtjdanngkmkgidaaFr5
namespace Go.Proofs.Ytjdanngkmkgidaa
open Go.RowKit Go.ChangeShapes Go.WideShapes Go.Deep Go.Joins
set_option linter.unusedVariables false
section
variable {H : Type} {enc : TypeId × Value → H} {w : World} {base : Nat} {spare : Nat → Bool} {held : Bool}
theorem open_keys {d : DataW H} {p : List MemPlace} {a : Option Addr} {len cap : Nat}
    (h : DataW.Trod enc Try.prog w base spare held 54 (.slice a len cap) d p) : ∃ l : List KeyL, RdE KeyL.cells 2 w a len cap l ∧ ∀ x ∈ l, x.2.size ≤ maxLen := by
  refine open_rdE KeyL.cells ⟨(0, ⟨#[]⟩)⟩ Try.underlying54 Try.underlying92 (by kernel_rfl) (by kernel_rfl) (fun x => x.2.size ≤ maxLen) ?_ h (by decide)
  intro vs hv
  obtain ⟨n0, y0, h0⟩ := hv 0 _ rfl
  obtain ⟨n1, y1, h1⟩ := hv 1 _ rfl
  obtain ⟨b0, e0, _, g0⟩ := DataW.trod_int Try.underlying3 h0
  obtain ⟨b1, e1, _, g1⟩ := DataW.trod_string Try.underlying9 h1
  simp at e0 e1
  refine ⟨(b0, b1), g1, fun j hj => ?_⟩
  have hj4 : j < 2 := hj
  match j, hj4 with
  | 0, _ => simp [KeyL.cells, e0]
  | 1, _ => simp [KeyL.cells, e1]
set_option maxRecDepth 100000 in
theorem open_cfg {b0 : Nat} {r : Reach} {v : Value} {d : DataW H} {p : List MemPlace} (hv : Value.okWide Try.prog w r b0 56 v) (h : DataW.Trod enc Try.prog w base spare held 56 v d p) :
    ∃ c : CfgM, v = c.val ∧ CfgOK w c := by
  obtain ⟨cs, rfl, hsz, hf⟩ := open_aggn Try.underlying56 (by kernel_rfl) (by kernel_rfl) hv h
  obtain ⟨c0, c1, c2, c3, c4, c5, c6, c7, c8, c9, c10, c11, rfl⟩ := arr12 hsz
  obtain ⟨u0, n0, y0, g0, h0⟩ := hf 0 _ rfl
  obtain ⟨u1, n1, y1, g1, h1⟩ := hf 1 _ rfl
  obtain ⟨u2, n2, y2, g2, h2⟩ := hf 2 _ rfl
  obtain ⟨u3, n3, y3, g3, h3⟩ := hf 3 _ rfl
  obtain ⟨u4, n4, y4, g4, h4⟩ := hf 4 _ rfl
  obtain ⟨u5, n5, y5, g5, h5⟩ := hf 5 _ rfl
  obtain ⟨u6, n6, y6, g6, h6⟩ := hf 6 _ rfl
  obtain ⟨u7, n7, y7, g7, h7⟩ := hf 7 _ rfl
  obtain ⟨u8, n8, y8, g8, h8⟩ := hf 8 _ rfl
  obtain ⟨u9, n9, y9, g9, h9⟩ := hf 9 _ rfl
  obtain ⟨u10, n10, y10, g10, h10⟩ := hf 10 _ rfl
  obtain ⟨u11, n11, y11, g11, h11⟩ := hf 11 _ rfl
  simp at g0 g1 g2 g3 g4 g5 g6 g7 g8 g9 g10 g11
  subst g0 g1 g2 g3 g4 g5 g6 g7 g8 g9 g10 g11
  obtain ⟨b2, e2, _, _⟩ := DataW.trod_int Try.underlying3 h2
  obtain ⟨b3, e3, _, _⟩ := DataW.trod_int Try.underlying3 h3
  obtain ⟨b4, e4, _, _⟩ := DataW.trod_int Try.underlying3 h4
  obtain ⟨b5, e5, _, _⟩ := DataW.trod_int Try.underlying3 h5
  obtain ⟨b6, e6, _, _⟩ := DataW.trod_int Try.underlying3 h6
  obtain ⟨b7, e7, _, _⟩ := DataW.trod_int Try.underlying3 h7
  obtain ⟨b8, e8, _, _⟩ := DataW.trod_int Try.underlying3 h8
  obtain ⟨b9, e9, _, _⟩ := DataW.trod_int Try.underlying3 h9
  obtain ⟨b10, e10, _, _⟩ := DataW.trod_int Try.underlying3 h10
  obtain ⟨b11, e11, _, _⟩ := DataW.trod_int Try.underlying3 h11
  simp at e2 e3 e4 e5 e6 e7 e8 e9 e10 e11
  subst e2 e3 e4 e5 e6 e7 e8 e9 e10 e11
  obtain ⟨aw, nw, cw, e0⟩ := slice_form Try.underlying53 h0
  obtain ⟨ac, nc, cc, e1⟩ := slice_form Try.underlying54 h1
  simp at e0 e1
  subst e0 e1
  obtain ⟨lw, hw1, hw2⟩ := open_texts (d := y0.1) (p := y0.2) Try.underlying53 Try.underlying9 (by kernel_rfl) ⟨n0, by simpa [Value.cells] using h0⟩
  obtain ⟨lk, hk1, hk2⟩ := open_keys (d := y1.1) (p := y1.2) ⟨n1, by simpa [Value.cells] using h1⟩
  exact ⟨⟨aw, nw, cw, ac, nc, cc, lw, lk, b2, b3, b4, b5, b6, b7, b8, b9, b10, b11⟩, rfl, hw1, hk1, hw2, hk2⟩
end
end Go.Proofs.Ytjdanngkmkgidaa
