/- The five messages of chapter 15, as they come in by value. -/
import Derived.Test.YtjhkdbcfkaaffaaOpenR
import Derived.Test.YtjhkdbcfkaaffaaOpen1
namespace Go.Proofs.Ytjhkdbcfkaaffaa
open Go.RowKit Go.ChangeShapes Go.WideShapes Go.Deep Go.Joins
set_option linter.unusedVariables false
set_option maxRecDepth 100000 in
theorem wf_rng {k : Int} (h : (Lit.int .i64 k).wf = true) : -9223372036854775808 ≤ k ∧ k ≤ 9223372036854775807 := by
  have e : (Lit.int .i64 k).wf = (decide (IntKind.i64.min ≤ k) && decide (k ≤ IntKind.i64.max)) := rfl
  rw [e, show IntKind.i64.min = -9223372036854775808 from by decide, show IntKind.i64.max = 9223372036854775807 from by decide] at h
  simpa using h
section
variable {H : Type} {enc : TypeId × Value → H} {w : World} {base : Nat} {spare : Nat → Bool} {held : Bool}
set_option maxRecDepth 100000 in
theorem slice_shape {t e : TypeId} {fuel : Nat} {v : Value} {x : DataW H × List MemPlace} (ht : Try.prog.underlying t = some (.slice e)) (h : DataW.trod enc Try.prog w base spare held fuel t [v] = some x) : ∃ (a : Option Addr) (len cap : Nat), v = .slice a len cap := by
  rcases DataW.trod_slice ht h with ⟨e1, _⟩ | ⟨a, len, cap, _, _, _, _, e1, _⟩
  · simp at e1; exact ⟨none, 0, 0, e1⟩
  · simp at e1; exact ⟨some a, len, cap, e1⟩
set_option maxRecDepth 100000 in
theorem arrM2 {α : Type} {cs : Array α} (h : cs.size = 2) : ∃ c0 c1, cs = #[c0, c1] := by
  obtain ⟨l⟩ := cs
  match l, h with
  | [c0, c1], _ => exact ⟨c0, c1, rfl⟩
set_option maxRecDepth 100000 in
theorem arrM3 {α : Type} {cs : Array α} (h : cs.size = 3) : ∃ c0 c1 c2, cs = #[c0, c1, c2] := by
  obtain ⟨l⟩ := cs
  match l, h with
  | [c0, c1, c2], _ => exact ⟨c0, c1, c2, rfl⟩
set_option maxRecDepth 100000 in
theorem arrM8 {α : Type} {cs : Array α} (h : cs.size = 8) : ∃ c0 c1 c2 c3 c4 c5 c6 c7, cs = #[c0, c1, c2, c3, c4, c5, c6, c7] := by
  obtain ⟨l⟩ := cs
  match l, h with
  | [c0, c1, c2, c3, c4, c5, c6, c7], _ => exact ⟨c0, c1, c2, c3, c4, c5, c6, c7, rfl⟩
set_option maxRecDepth 100000 in
theorem arrM11 {α : Type} {cs : Array α} (h : cs.size = 11) : ∃ c0 c1 c2 c3 c4 c5 c6 c7 c8 c9 c10, cs = #[c0, c1, c2, c3, c4, c5, c6, c7, c8, c9, c10] := by
  obtain ⟨l⟩ := cs
  match l, h with
  | [c0, c1, c2, c3, c4, c5, c6, c7, c8, c9, c10], _ => exact ⟨c0, c1, c2, c3, c4, c5, c6, c7, c8, c9, c10, rfl⟩
set_option maxRecDepth 100000 in
theorem open_hello {b0 : Nat} {r : Reach} {v : Value} {d : DataW H} {p : List MemPlace} (hv : Value.okWide Try.prog w r b0 23 v) (h : DataW.Trod enc Try.prog w base spare held 23 v d p) :
    ∃ (x0 : Int) (x1 : Int), v = .agg #[.int .i64 x0, .int .i64 x1] := by
  obtain ⟨cs, rfl, hsz, hf⟩ := open_aggn Try.underlying23 (by kernel_rfl) (by kernel_rfl) hv h
  obtain ⟨c0, c1, rfl⟩ := arrM2 hsz
  obtain ⟨u0, n0, y0, g0, h0⟩ := hf 0 _ rfl
  obtain ⟨u1, n1, y1, g1, h1⟩ := hf 1 _ rfl
  simp at g0 g1
  subst g0 g1
  obtain ⟨x0, e0, _, _⟩ := DataW.trod_int Try.underlying3 h0
  obtain ⟨x1, e1, _, _⟩ := DataW.trod_int Try.underlying3 h1
  simp at e0 e1
  subst e0 e1
  exact ⟨x0, x1, rfl⟩
set_option maxRecDepth 100000 in
theorem open_grant {b0 : Nat} {r : Reach} {v : Value} {d : DataW H} {p : List MemPlace} (hv : Value.okWide Try.prog w r b0 25 v) (h : DataW.Trod enc Try.prog w base spare held 25 v d p) :
    ∃ (x0 : Int) (x1 : Int) (x2 : Int), v = .agg #[.int .i64 x0, .int .i64 x1, .int .i64 x2] := by
  obtain ⟨cs, rfl, hsz, hf⟩ := open_aggn Try.underlying25 (by kernel_rfl) (by kernel_rfl) hv h
  obtain ⟨c0, c1, c2, rfl⟩ := arrM3 hsz
  obtain ⟨u0, n0, y0, g0, h0⟩ := hf 0 _ rfl
  obtain ⟨u1, n1, y1, g1, h1⟩ := hf 1 _ rfl
  obtain ⟨u2, n2, y2, g2, h2⟩ := hf 2 _ rfl
  simp at g0 g1 g2
  subst g0 g1 g2
  obtain ⟨x0, e0, _, _⟩ := DataW.trod_int Try.underlying3 h0
  obtain ⟨x1, e1, _, _⟩ := DataW.trod_int Try.underlying3 h1
  obtain ⟨x2, e2, _, _⟩ := DataW.trod_int Try.underlying3 h2
  simp at e0 e1 e2
  subst e0 e1 e2
  exact ⟨x0, x1, x2, rfl⟩
set_option maxRecDepth 100000 in
theorem open_stop {b0 : Nat} {r : Reach} {v : Value} {d : DataW H} {p : List MemPlace} (hv : Value.okWide Try.prog w r b0 34 v) (h : DataW.Trod enc Try.prog w base spare held 34 v d p) :
    ∃ (x0 : Int) (x1 : Int), v = .agg #[.int .i64 x0, .int .i64 x1] := by
  obtain ⟨cs, rfl, hsz, hf⟩ := open_aggn Try.underlying34 (by kernel_rfl) (by kernel_rfl) hv h
  obtain ⟨c0, c1, rfl⟩ := arrM2 hsz
  obtain ⟨u0, n0, y0, g0, h0⟩ := hf 0 _ rfl
  obtain ⟨u1, n1, y1, g1, h1⟩ := hf 1 _ rfl
  simp at g0 g1
  subst g0 g1
  obtain ⟨x0, e0, _, _⟩ := DataW.trod_int Try.underlying3 h0
  obtain ⟨x1, e1, _, _⟩ := DataW.trod_int Try.underlying3 h1
  simp at e0 e1
  subst e0 e1
  exact ⟨x0, x1, rfl⟩
set_option maxRecDepth 100000 in
theorem open_reply {b0 : Nat} {r : Reach} {v : Value} {d : DataW H} {p : List MemPlace} (hv : Value.okWide Try.prog w r b0 32 v) (h : DataW.Trod enc Try.prog w base spare held 32 v d p) :
    ∃ (x0 : Int) (x1 : Int) (x2 : Int) (x3 : Int) (x4 : Int) (x5 : Int) (a : Option Addr) (c : Nat) (l : List KeyL) (x7 : Bool), v = .agg #[.int .i64 x0, .int .i64 x1, .int .i64 x2, .int .i64 x3, .int .i64 x4, .int .i64 x5, .slice a l.length c, .bool x7] ∧ RdE KeyL.cells 2 w a l.length c l ∧ ∀ x ∈ l, x.2.size ≤ maxLen := by
  obtain ⟨cs, rfl, hsz, hf⟩ := open_aggn Try.underlying32 (by kernel_rfl) (by kernel_rfl) hv h
  obtain ⟨c0, c1, c2, c3, c4, c5, c6, c7, rfl⟩ := arrM8 hsz
  obtain ⟨u0, n0, y0, g0, h0⟩ := hf 0 _ rfl
  obtain ⟨u1, n1, y1, g1, h1⟩ := hf 1 _ rfl
  obtain ⟨u2, n2, y2, g2, h2⟩ := hf 2 _ rfl
  obtain ⟨u3, n3, y3, g3, h3⟩ := hf 3 _ rfl
  obtain ⟨u4, n4, y4, g4, h4⟩ := hf 4 _ rfl
  obtain ⟨u5, n5, y5, g5, h5⟩ := hf 5 _ rfl
  obtain ⟨u6, n6, y6, g6, h6⟩ := hf 6 _ rfl
  obtain ⟨u7, n7, y7, g7, h7⟩ := hf 7 _ rfl
  simp at g0 g1 g2 g3 g4 g5 g6 g7
  subst g0 g1 g2 g3 g4 g5 g6 g7
  obtain ⟨x0, e0, _, _⟩ := DataW.trod_int Try.underlying3 h0
  obtain ⟨x1, e1, _, _⟩ := DataW.trod_int Try.underlying3 h1
  obtain ⟨x2, e2, _, _⟩ := DataW.trod_int Try.underlying3 h2
  obtain ⟨x3, e3, _, _⟩ := DataW.trod_int Try.underlying3 h3
  obtain ⟨x4, e4, _, _⟩ := DataW.trod_int Try.underlying3 h4
  obtain ⟨x5, e5, _, _⟩ := DataW.trod_int Try.underlying3 h5
  obtain ⟨a, len, cap, e6⟩ := slice_shape Try.underlying30 h6
  obtain ⟨x7, e7, _⟩ := DataW.trod_bool Try.underlying4 h7
  simp at e0 e1 e2 e3 e4 e5 e7
  subst e0 e1 e2 e3 e4 e5 e6 e7
  obtain ⟨l, hl, hz⟩ := open_items (d := y6.1) (p := y6.2) ⟨n6, by simpa [Value.cells] using h6⟩
  obtain rfl := hl.1
  exact ⟨x0, x1, x2, x3, x4, x5, a, cap, l, x7, rfl, hl, hz⟩
set_option maxRecDepth 100000 in
theorem open_ask {b0 : Nat} {r : Reach} {v : Value} {d : DataW H} {p : List MemPlace} (hv : Value.okWide Try.prog w r b0 29 v) (h : DataW.Trod enc Try.prog w base spare held 29 v d p) :
    ∃ (x0 : Int) (x1 : Int) (x2 : Int) (x3 : Int) (x4 : Int) (x5 : ByteArray) (x6 : Int) (x7 : Int) (x8 : Bool) (x9 : Int) (x10 : ByteArray), v = .agg #[.int .i64 x0, .int .i64 x1, .int .i64 x2, .int .i64 x3, .int .i64 x4, .string x5, .int .i64 x6, .int .i64 x7, .bool x8, .int .i64 x9, .string x10] ∧ x5.size ≤ maxLen ∧ x10.size ≤ maxLen := by
  obtain ⟨cs, rfl, hsz⟩ := okWide_struct Try.underlying29 hv
  rw [show Try.prog.cellsOf 29 = 11 by kernel_rfl] at hsz
  obtain ⟨c0, c1, c2, c3, c4, c5, c6, c7, c8, c9, c10, rfl⟩ := arrM11 hsz
  obtain ⟨fuel, hf⟩ := h
  have zi : Try.prog.cellsOf 3 = 1 := by kernel_rfl
  have zb : Try.prog.cellsOf 4 = 1 := by kernel_rfl
  have zs : Try.prog.cellsOf 9 = 1 := by kernel_rfl
  have zm : Try.prog.cellsOf 27 = 2 := by kernel_rfl
  obtain ⟨xs, n, _, _, hl, hlen, hff⟩ := DataW.trod_struct Try.underlying29 hf
  have hlen10 : xs.length = 10 := hlen
  match xs, hlen10 with
  | [q0, q1, q2, q3, q4, q5, q6, q7, q8, q9], _ =>
    have h0 := hff 0 _ rfl
    have h1 := hff 1 _ rfl
    have h2 := hff 2 _ rfl
    have h3 := hff 3 _ rfl
    have h4 := hff 4 _ rfl
    have h5 := hff 5 _ rfl
    have h6 := hff 6 _ rfl
    have h7 := hff 7 _ rfl
    have h8 := hff 8 _ rfl
    have h9 := hff 9 _ rfl
    simp only [List.getElem_toArray, List.getElem_cons_zero, List.getElem_cons_succ, List.getElem?_cons_zero, List.getElem?_cons_succ] at h0 h1 h2 h3 h4 h5 h6 h7 h8 h9
    rw [zi] at h0
    rw [zi] at h1
    rw [zi] at h2
    rw [zi] at h3
    rw [zi] at h4
    rw [zs] at h5
    rw [zi] at h6
    rw [zi] at h7
    rw [zb] at h8
    rw [zm] at h9
    simp [Value.cells] at h0 h1 h2 h3 h4 h5 h6 h7 h8 h9
    obtain ⟨x0, e0, _, _⟩ := DataW.trod_int Try.underlying3 h0
    obtain ⟨x1, e1, _, _⟩ := DataW.trod_int Try.underlying3 h1
    obtain ⟨x2, e2, _, _⟩ := DataW.trod_int Try.underlying3 h2
    obtain ⟨x3, e3, _, _⟩ := DataW.trod_int Try.underlying3 h3
    obtain ⟨x4, e4, _, _⟩ := DataW.trod_int Try.underlying3 h4
    obtain ⟨x5, e5, _, hz5⟩ := DataW.trod_string Try.underlying9 h5
    obtain ⟨x6, e6, _, _⟩ := DataW.trod_int Try.underlying3 h6
    obtain ⟨x7, e7, _, _⟩ := DataW.trod_int Try.underlying3 h7
    obtain ⟨x8, e8, _⟩ := DataW.trod_bool Try.underlying4 h8
    obtain ⟨ys, n1, _, _, _, hly, hgg⟩ := DataW.trod_struct Try.underlying27 h9
    have hly2 : ys.length = 2 := hly
    match ys, hly2 with
    | [y0, y1], _ =>
      have g0 := hgg 0 _ rfl
      have g1 := hgg 1 _ rfl
      simp only [List.getElem_toArray, List.getElem_cons_zero, List.getElem_cons_succ, List.getElem?_cons_zero, List.getElem?_cons_succ] at g0 g1
      rw [zi] at g0
      rw [zs] at g1
      simp at g0 g1
      obtain ⟨x9, e9, _, _⟩ := DataW.trod_int Try.underlying3 g0
      obtain ⟨x10, e10, _, hz10⟩ := DataW.trod_string Try.underlying9 g1
      simp at e0 e1 e2 e3 e4 e5 e6 e7 e8 e9 e10
      subst e0 e1 e2 e3 e4 e5 e6 e7 e8 e9 e10
      exact ⟨x0, x1, x2, x3, x4, x5, x6, x7, x8, x9, x10, rfl, hz5, hz10⟩
end
end Go.Proofs.Ytjhkdbcfkaaffaa
