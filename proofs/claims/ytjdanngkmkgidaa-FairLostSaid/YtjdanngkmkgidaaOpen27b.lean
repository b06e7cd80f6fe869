/- Records, as they come in: a struct of structs with two rows in each. -/
import Derived.Test.YtjdanngkmkgidaaOpen27
namespace Go.Proofs.Ytjdanngkmkgidaa
open Go.RowKit Go.ChangeShapes Go.WideShapes Go.Deep Go.Joins
set_option linter.unusedVariables false
section
variable {H : Type} {enc : TypeId × Value → H} {w : World} {base : Nat} {spare : Nat → Bool} {held : Bool}
theorem trod_field {P : Program} {t : TypeId} {fs : Array Field} {n : Nat} {cs : List Value} {y : DataW H × List MemPlace} (hs : P.underlying t = some (.struct fs)) (h : DataW.trod enc P w base spare held n t cs = some y) (i : Nat) (f : Field) (hf : fs[i]? = some f) (k : Nat) (hk : P.cellsOf f.type = k) :
    ∃ m y', DataW.trod enc P w base spare held m f.type ((cs.drop f.offset).take k) = some y' := by
  obtain ⟨xs, m, _, _, _, hl, hff⟩ := DataW.trod_struct hs h
  have hi : i < fs.size := (Array.getElem?_eq_some_iff.1 hf).1
  obtain ⟨y', hy⟩ : ∃ y', xs[i]? = some y' := ⟨_, List.getElem?_eq_getElem (show i < xs.length by omega)⟩
  have h1 := hff i f hf
  rw [hk] at h1
  exact ⟨m, y', h1.trans hy⟩
theorem open_sents {d : DataW H} {p : List MemPlace} {a : Option Addr} {len cap : Nat}
    (h : DataW.Trod enc Try.prog w base spare held 68 (.slice a len cap) d p) : ∃ l : List SentL, RdE SentL.cells 3 w a len cap l ∧ ∀ x ∈ l, wf64 x.1 := by
  refine open_rdE SentL.cells ⟨(0, 0, 0)⟩ Try.underlying68 Try.underlying72 (by kernel_rfl) (by kernel_rfl) (fun x => wf64 x.1) ?_ h (by decide)
  intro vs hv
  obtain ⟨n0, y0, h0⟩ := hv 0 _ rfl
  obtain ⟨n1, y1, h1⟩ := hv 1 _ rfl
  obtain ⟨n2, y2, h2⟩ := hv 2 _ rfl
  obtain ⟨b0, e0, _, g0⟩ := DataW.trod_int Try.underlying3 h0
  obtain ⟨b1, e1, _, _⟩ := DataW.trod_int Try.underlying3 h1
  obtain ⟨b2, e2, _, _⟩ := DataW.trod_int Try.underlying3 h2
  simp at e0 e1 e2
  refine ⟨(b0, b1, b2), g0, fun j hj => ?_⟩
  have hj4 : j < 3 := hj
  match j, hj4 with
  | 0, _ => simp [SentL.cells, e0]
  | 1, _ => simp [SentL.cells, e1]
  | 2, _ => simp [SentL.cells, e2]
set_option maxRecDepth 100000 in
theorem dec_rec (cs : List Value) (n : Nat) (y : DataW H × List MemPlace) (hl : cs.length = 12) (h : DataW.trod enc Try.prog w base spare held n 70 cs = some y) : ∃ r : RecM, RecIn w r ∧ r.cells = cs := by
  obtain ⟨c0, c1, c2, c3, c4, c5, c6, c7, c8, c9, c10, c11, rfl⟩ := list12 hl
  obtain ⟨n0, y0, h0⟩ := trod_field Try.underlying70 h 0 _ rfl 7 (by kernel_rfl)
  obtain ⟨n1, y1, h1⟩ := trod_field Try.underlying70 h 1 _ rfl 1 (by kernel_rfl)
  obtain ⟨n2, y2, h2⟩ := trod_field Try.underlying70 h 2 _ rfl 1 (by kernel_rfl)
  obtain ⟨n3, y3, h3⟩ := trod_field Try.underlying70 h 3 _ rfl 1 (by kernel_rfl)
  obtain ⟨n4, y4, h4⟩ := trod_field Try.underlying70 h 4 _ rfl 1 (by kernel_rfl)
  obtain ⟨n5, y5, h5⟩ := trod_field Try.underlying70 h 5 _ rfl 1 (by kernel_rfl)
  obtain ⟨m0, z0, g0⟩ := trod_field Try.underlying67 h0 0 _ rfl 1 (by kernel_rfl)
  obtain ⟨m1, z1, g1⟩ := trod_field Try.underlying67 h0 1 _ rfl 1 (by kernel_rfl)
  obtain ⟨m2, z2, g2⟩ := trod_field Try.underlying67 h0 2 _ rfl 1 (by kernel_rfl)
  obtain ⟨m3, z3, g3⟩ := trod_field Try.underlying67 h0 3 _ rfl 1 (by kernel_rfl)
  obtain ⟨m4, z4, g4⟩ := trod_field Try.underlying67 h0 4 _ rfl 3 (by kernel_rfl)
  obtain ⟨q0, x0, f0⟩ := trod_field Try.underlying65 g4 0 _ rfl 1 (by kernel_rfl)
  obtain ⟨q1, x1, f1⟩ := trod_field Try.underlying65 g4 1 _ rfl 1 (by kernel_rfl)
  obtain ⟨q2, x2, f2⟩ := trod_field Try.underlying65 g4 2 _ rfl 1 (by kernel_rfl)
  obtain ⟨b1, e1, _, _⟩ := DataW.trod_int Try.underlying3 h1
  obtain ⟨b2, e2, _, _⟩ := DataW.trod_int Try.underlying3 h2
  obtain ⟨b4, e4, _, k4⟩ := DataW.trod_int Try.underlying3 h4
  obtain ⟨u0, v0, _, _⟩ := DataW.trod_int Try.underlying3 g0
  obtain ⟨u1, v1, _, _⟩ := DataW.trod_int Try.underlying3 g1
  obtain ⟨u2, v2, _, _⟩ := DataW.trod_int Try.underlying3 g2
  obtain ⟨u3, v3, _, _⟩ := DataW.trod_int Try.underlying3 g3
  obtain ⟨t0, r0, _, _⟩ := DataW.trod_string Try.underlying9 f0
  obtain ⟨t1, r1, _, _⟩ := DataW.trod_int Try.underlying3 f1
  obtain ⟨t2, r2, _, _⟩ := DataW.trod_int Try.underlying3 f2
  obtain ⟨a3, l3, p3, e3⟩ := slice_form Try.underlying68 h3
  obtain ⟨a5, l5, p5, e5⟩ := slice_form Try.underlying22 h5
  simp at e1 e2 e3 e4 e5 v0 v1 v2 v3 r0 r1 r2
  subst e1 e2 e3 e4 e5 v0 v1 v2 v3 r0 r1 r2
  obtain ⟨S, hS, hw⟩ := open_sents (d := y3.1) (p := y3.2) ⟨n3, by simpa [Value.cells] using h3⟩
  obtain ⟨L, hL, hb⟩ := open_ints64 (d := y5.1) (p := y5.2) Try.underlying22 Try.underlying3 (by kernel_rfl) ⟨n5, by simpa [Value.cells] using h5⟩
  exact ⟨⟨u0, u1, u2, u3, t0, t1, t2, b1, b2, a3, l3, p3, b4, a5, l5, p5, S, L⟩, ⟨hS, hL, hw, fun i hi => wf64_of (hb i hi).1 (hb i hi).2, k4⟩, rfl⟩
theorem open_recs {d : DataW H} {p : List MemPlace} {a : Option Addr} {len cap : Nat}
    (h : DataW.Trod enc Try.prog w base spare held 61 (.slice a len cap) d p) : ∃ l : List RecM, Recs w a len cap l := by
  obtain ⟨l, h1, h2⟩ := open_rdG RecM.cells 12 ⟨⟨0, 0, 0, 0, ⟨#[]⟩, 0, 0, 0, 0, none, 0, 0, 0, none, 0, 0, [], []⟩⟩ Try.underlying61 (by kernel_rfl) (by decide) (RecIn w) dec_rec h
  exact ⟨l, h1, h2⟩
end
end Go.Proofs.Ytjdanngkmkgidaa
