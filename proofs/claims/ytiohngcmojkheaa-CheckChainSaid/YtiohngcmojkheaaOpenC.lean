/- What was told (api.Told), as it comes in: a struct with a struct in it. -/
import Derived.Test.YtiohngcmojkheaaOpenR
import Derived.Test.YtiohngcmojkheaaOpen1
namespace Go.Proofs.Ytiohngcmojkheaa
open Go.RowKit Go.ChangeShapes Go.WideShapes Go.Deep Go.Joins
set_option linter.unusedVariables false
section
variable {H : Type} {enc : TypeId × Value → H} {w : World} {base : Nat} {spare : Nat → Bool} {held : Bool}
theorem arr7 {α : Type} {cs : Array α} (h : cs.size = 7) : ∃ c0 c1 c2 c3 c4 c5 c6, cs = #[c0, c1, c2, c3, c4, c5, c6] := by
  obtain ⟨l⟩ := cs
  match l, h with
  | [c0, c1, c2, c3, c4, c5, c6], _ => exact ⟨c0, c1, c2, c3, c4, c5, c6, rfl⟩
theorem slice_shape {t e : TypeId} {fuel : Nat} {v : Value} {x : DataW H × List MemPlace} (ht : Try.prog.underlying t = some (.slice e)) (h : DataW.trod enc Try.prog w base spare held fuel t [v] = some x) : ∃ (a : Option Addr) (len cap : Nat), v = .slice a len cap := by
  rcases DataW.trod_slice ht h with ⟨e1, _⟩ | ⟨a, len, cap, _, _, _, _, e1, _⟩
  · simp at e1; exact ⟨none, 0, 0, e1⟩
  · simp at e1; exact ⟨some a, len, cap, e1⟩
set_option maxRecDepth 100000 in
theorem open_told {b0 : Nat} {r : Reach} {v : Value} {d : DataW H} {p : List MemPlace} (hv : Value.okWide Try.prog w r b0 46 v) (h : DataW.Trod enc Try.prog w base spare held 46 v d p) :
    ∃ (id : Int) (q : ByteArray) (k m : Int) (a : Option Addr) (c : Nat) (l : List KeyL) (dn cc : Bool), v = .agg #[.int .i64 id, .string q, .int .i64 k, .int .i64 m, .slice a l.length c, .bool dn, .bool cc] ∧ q.size ≤ maxLen ∧ RdE KeyL.cells 2 w a l.length c l ∧ ∀ x ∈ l, x.2.size ≤ maxLen := by
  obtain ⟨cs, rfl, hsz⟩ := okWide_struct Try.underlying46 hv
  rw [show Try.prog.cellsOf 46 = 7 by kernel_rfl] at hsz
  obtain ⟨c0, c1, c2, c3, c4, c5, c6, rfl⟩ := arr7 hsz
  obtain ⟨fuel, hf⟩ := h
  have z3 : Try.prog.cellsOf 3 = 1 := by kernel_rfl
  have z4 : Try.prog.cellsOf 4 = 1 := by kernel_rfl
  have z9 : Try.prog.cellsOf 9 = 1 := by kernel_rfl
  have z28 : Try.prog.cellsOf 28 = 1 := by kernel_rfl
  have z24 : Try.prog.cellsOf 24 = 3 := by kernel_rfl
  obtain ⟨xs, n, _, _, hl, hlen, hff⟩ := DataW.trod_struct Try.underlying46 hf
  have hlen5 : xs.length = 5 := hlen
  match xs, hlen5 with
  | [x0, x1, x2, x3, x4], _ =>
    have h0 := hff 0 _ rfl
    have h1 := hff 1 _ rfl
    have h2 := hff 2 _ rfl
    have h3 := hff 3 _ rfl
    have h4 := hff 4 _ rfl
    simp only [List.getElem_toArray, List.getElem_cons_zero, List.getElem_cons_succ, List.getElem?_cons_zero, List.getElem?_cons_succ] at h0 h1 h2 h3 h4
    rw [z3] at h0
    rw [z24] at h1
    rw [z28] at h2
    rw [z4] at h3 h4
    simp [Value.cells] at h0 h1 h2 h3 h4
    obtain ⟨id, e0, _, _⟩ := DataW.trod_int Try.underlying3 h0
    obtain ⟨ys, n1, _, _, _, hly, hgg⟩ := DataW.trod_struct Try.underlying24 h1
    have hly3 : ys.length = 3 := hly
    match ys, hly3 with
    | [y0, y1, y2], _ =>
      have g0 := hgg 0 _ rfl
      have g1 := hgg 1 _ rfl
      have g2 := hgg 2 _ rfl
      simp only [List.getElem_toArray, List.getElem_cons_zero, List.getElem_cons_succ, List.getElem?_cons_zero, List.getElem?_cons_succ] at g0 g1 g2

      rw [z9] at g0
      rw [z3] at g1 g2
      simp at g0 g1 g2
      obtain ⟨q, e1, _, hq⟩ := DataW.trod_string Try.underlying9 g0
      obtain ⟨k, e2, _, _⟩ := DataW.trod_int Try.underlying3 g1
      obtain ⟨m, e3, _, _⟩ := DataW.trod_int Try.underlying3 g2
      obtain ⟨a, len, cap, e4⟩ := slice_shape Try.underlying28 h2
      obtain ⟨dn, e5, _⟩ := DataW.trod_bool Try.underlying4 h3
      obtain ⟨cc, e6, _⟩ := DataW.trod_bool Try.underlying4 h4
      simp at e0 e1 e2 e3 e5 e6
      subst e0 e1 e2 e3 e4 e5 e6
      obtain ⟨l, hl, hz⟩ := open_items (d := x2.1) (p := x2.2) ⟨n, by simpa [Value.cells] using h2⟩
      obtain rfl := hl.1
      exact ⟨id, q, k, m, a, cap, l, dn, cc, rfl, hq, hl, hz⟩
end
end Go.Proofs.Ytiohngcmojkheaa
