/- Lemmas for the law (part 12): Open1, OpenG, OpenV -/
import Derived.Lib.SmallJoins
import Derived.Test.YtinkbgeckjbnbaaGreatQr11
namespace Go.Proofs.YtinkbgeckjbnbaaGreat
section
open Go.RowKit Go.ChangeShapes Go.WideShapes Go.Deep
set_option linter.unusedVariables false
section
variable {H : Type} {enc : TypeId × Value → H} {P : Program} {w : World} {base : Nat} {spare : Nat → Bool} {held : Bool}
set_option maxRecDepth 100000 in
theorem open_rd1 {α : Type} (en : α → Value) (good : α → Prop) (hinh : Nonempty α) {t e : TypeId} {d : DataW H} {p : List MemPlace} (ht : P.underlying t = some (.slice e)) (hc : P.cellsOf e = 1) {a : Option Addr} {len cap : Nat}
    (dec : ∀ v (n : Nat) (y : DataW H × List MemPlace), DataW.trod enc P w base spare held n e [v] = some y → ∃ x : α, good x ∧ v = en x)
    (h : DataW.Trod enc P w base spare held t (.slice a len cap) d p) : ∃ l : List α, Rd w a len cap (l.map en) ∧ ∀ x ∈ l, good x := by
  obtain ⟨fuel, hf⟩ := h
  rcases open_slice1 ht hc hf with ⟨hcs, _⟩ | ⟨ad, len', cap', m, n, V, D, Pl, hcs, _, hl, hm, hmm, _, hi⟩
  · simp [Value.cells] at hcs
    obtain ⟨rfl, rfl, rfl⟩ := hcs
    exact ⟨[], rd_nil _ _ rfl, by simp⟩
  · simp [Value.cells] at hcs
    obtain ⟨rfl, rfl, rfl⟩ := hcs
    have hlm : len ≤ m := by rw [hmm]; split <;> omega
    have hex' : ∀ i, ∃ x : α, i < len → good x ∧ w.cell? (ad.add i) = some (en x) := by
      intro i
      by_cases hil : i < len
      · obtain ⟨h1, h2⟩ := hi i (by omega)
        obtain ⟨x, hg, hx⟩ := dec _ _ _ h2
        exact ⟨x, fun _ => ⟨hg, by rw [h1, hx]⟩⟩
      · obtain ⟨x⟩ := hinh; exact ⟨x, fun h => absurd h hil⟩
    obtain ⟨g, hg⟩ := Classical.axiomOfChoice hex'
    refine ⟨(List.range len).map g, ⟨by simp, hl, hm, by simp, fun i hil => ?_⟩, fun x hx => ?_⟩
    · obtain ⟨b, off, spot⟩ := ad
      have hcell := (hg i hil).2
      have hc0 := (hg 0 (by omega)).2
      have hspot : spot = none := by simpa [Addr.add] using World.cell?_spot hc0
      subst hspot
      have hlt := cell?_lt hc0
      rw [Addr.add_lit] at hlt
      refine ⟨b, off, rfl, hlt, ?_⟩
      rw [Addr.add_lit] at hcell
      rw [hcell]; simp [hil]
    · simp only [List.mem_map, List.mem_range] at hx
      obtain ⟨i, hi', rfl⟩ := hx
      exact (hg i hi').1
set_option maxRecDepth 100000 in
theorem open_ints64 {t e : TypeId} {d : DataW H} {p : List MemPlace} (ht : P.underlying t = some (.slice e)) (he : P.underlying e = some (.int .i64)) (hc : P.cellsOf e = 1) {a : Option Addr} {len cap : Nat}
    (h : DataW.Trod enc P w base spare held t (.slice a len cap) d p) : ∃ l : List Int, Rd w a len cap (l.map (Value.int .i64)) ∧ ∀ n ∈ l, -9223372036854775808 ≤ n ∧ n ≤ 9223372036854775807 :=
  open_rd1 (Value.int .i64) _ ⟨0⟩ ht hc (fun v n y h => by
    obtain ⟨b, e0, _, g⟩ := DataW.trod_int he h
    simp at e0
    exact ⟨b, bounds_i64 g, e0⟩) h
set_option maxRecDepth 100000 in
theorem open_texts {t e : TypeId} {d : DataW H} {p : List MemPlace} (ht : P.underlying t = some (.slice e)) (he : P.underlying e = some .string) (hc : P.cellsOf e = 1) {a : Option Addr} {len cap : Nat}
    (h : DataW.Trod enc P w base spare held t (.slice a len cap) d p) : ∃ l : List ByteArray, Rd w a len cap (l.map Value.string) ∧ ∀ s ∈ l, s.size ≤ maxLen :=
  open_rd1 Value.string _ ⟨ByteArray.empty⟩ ht hc (fun v n y h => by
    obtain ⟨b, e0, _, g⟩ := DataW.trod_string he h
    simp at e0
    exact ⟨b, g, e0⟩) h
end
end
end Go.Proofs.YtinkbgeckjbnbaaGreat
namespace Go.Proofs.YtinkbgeckjbnbaaGreat
section
open Go.RowKit Go.ChangeShapes Go.WideShapes Go.Deep Go.Joins
set_option linter.unusedVariables false
section
variable {H : Type} {enc : TypeId × Value → H} {P : Program} {w : World} {base : Nat} {spare : Nat → Bool} {held : Bool}
set_option maxRecDepth 100000 in
/-- a struct of one-cell fields, by value -/
theorem open_aggn {b0 : Nat} {r : Reach} {t : TypeId} {fs : Array Field} {v : Value} {d : DataW H} {p : List MemPlace} (hs : P.underlying t = some (.struct fs)) (hone : oneCellFields P fs = true) (hC : P.cellsOf t = fs.size)
    (hv : Value.okWide P w r b0 t v) (h : DataW.Trod enc P w base spare held t v d p) :
    ∃ cs : Array Value, v = .agg cs ∧ cs.size = fs.size ∧ ∀ (j : Nat) (f : Field), fs[j]? = some f → ∃ (u : Value) (n : Nat) (y : DataW H × List MemPlace), cs[j]? = some u ∧ DataW.trod enc P w base spare held n f.type [u] = some y := by
  obtain ⟨cs, rfl, hsz⟩ := okWide_struct hs hv
  obtain ⟨fuel, hf⟩ := h
  obtain ⟨xs, n, _, _, hl, hlen, hff⟩ := DataW.trod_struct hs hf
  refine ⟨cs, rfl, hsz.trans hC, fun j f hj => ?_⟩
  have hjs : j < fs.size := (Array.getElem?_eq_some_iff.1 hj).1
  have hjc : j < cs.size := by rw [hsz.trans hC]; exact hjs
  obtain ⟨o0, k0⟩ := hone_of hone j f hj
  have h1 := hff j f hj
  obtain ⟨y, hy⟩ : ∃ y, xs[j]? = some y := ⟨_, List.getElem?_eq_getElem (show j < xs.length by rw [hlen]; simpa using hjs)⟩
  have e : ((Value.agg cs).cells.toList.drop f.offset).take (P.cellsOf f.type) = [cs[j]] := by
    rw [o0, k0]
    simp only [Value.cells]
    rw [List.drop_eq_getElem_cons (by simpa using hjc)]
    simp
  rw [e] at h1
  exact ⟨cs[j], n, y, Array.getElem?_eq_getElem hjc, h1.trans hy⟩
set_option maxRecDepth 100000 in
theorem arr12 {α : Type} {cs : Array α} (h : cs.size = 12) : ∃ c0 c1 c2 c3 c4 c5 c6 c7 c8 c9 c10 c11, cs = #[c0, c1, c2, c3, c4, c5, c6, c7, c8, c9, c10, c11] := by
  obtain ⟨l⟩ := cs
  match l, h with
  | [c0, c1, c2, c3, c4, c5, c6, c7, c8, c9, c10, c11], _ => exact ⟨c0, c1, c2, c3, c4, c5, c6, c7, c8, c9, c10, c11, rfl⟩
end
end
end Go.Proofs.YtinkbgeckjbnbaaGreat
namespace Go.Proofs.YtinkbgeckjbnbaaGreat
section
open Go.RowKit Go.ChangeShapes Go.WideShapes Go.Deep Go.Joins
set_option linter.unusedVariables false
section
variable {H : Type} {enc : TypeId × Value → H} {w : World} {base : Nat} {spare : Nat → Bool} {held : Bool}
set_option maxRecDepth 100000 in
theorem open_keys {d : DataW H} {p : List MemPlace} {a : Option Addr} {len cap : Nat}
    (h : DataW.Trod enc Tryz.prog w base spare held 23 (.slice a len cap) d p) : ∃ l : List KeyL, RdE KeyL.cells 2 w a len cap l ∧ ∀ x ∈ l, x.2.size ≤ maxLen := by
  refine open_rdE KeyL.cells ⟨(0, ⟨#[]⟩)⟩ Tryz.underlying23 Tryz.underlying107 (by kernel_rfl) (by kernel_rfl) (fun x => x.2.size ≤ maxLen) ?_ h (by decide)
  intro vs hv
  obtain ⟨n0, y0, h0⟩ := hv 0 _ rfl
  obtain ⟨n1, y1, h1⟩ := hv 1 _ rfl
  obtain ⟨b0, e0, _, g0⟩ := DataW.trod_int Tryz.underlying3 h0
  obtain ⟨b1, e1, _, g1⟩ := DataW.trod_string Tryz.underlying9 h1
  simp at e0 e1
  refine ⟨(b0, b1), g1, fun j hj => ?_⟩
  have hj4 : j < 2 := hj
  match j, hj4 with
  | 0, _ => simp [KeyL.cells, e0]
  | 1, _ => simp [KeyL.cells, e1]
set_option maxRecDepth 100000 in
theorem open_cfg {b0 : Nat} {r : Reach} {v : Value} {d : DataW H} {p : List MemPlace} (hv : Value.okWide Tryz.prog w r b0 25 v) (h : DataW.Trod enc Tryz.prog w base spare held 25 v d p) :
    ∃ c : CfgM, v = c.val ∧ CfgOK w c := by
  obtain ⟨cs, rfl, hsz, hf⟩ := open_aggn Tryz.underlying25 (by kernel_rfl) (by kernel_rfl) hv h
  obtain ⟨c0, c1, c2, c3, c4, c5, c6, c7, c8, c9, c10, c11, rfl⟩ := arr12 hsz
  obtain ⟨u0, n0, y0, g0, h0⟩ := hf 0 _ rfl
  obtain ⟨u1, n1, y1, g1, h1⟩ := hf 1 _ rfl
  obtain ⟨u2, n2, y2, g2, h2⟩ := hf 2 _ rfl
  obtain ⟨u3, n3, y3, g3, h3⟩ := hf 3 _ rfl
  obtain ⟨u4, n4, y4, g4, h4⟩ := hf 4 _ rfl
  obtain ⟨u5, n5, y5, g5, h5⟩ := hf 5 _ rfl
  obtain ⟨u6, n6, y6, g6, h6⟩ := hf 6 _ rfl
  obtain ⟨u7, n7, y7, g7, h7⟩ := hf 7 _ rfl
  obtain ⟨u8, n8, y8, g8, h8⟩ := hf 8 _ rfl
  obtain ⟨u9, n9, y9, g9, h9⟩ := hf 9 _ rfl
  obtain ⟨u10, n10, y10, g10, h10⟩ := hf 10 _ rfl
  obtain ⟨u11, n11, y11, g11, h11⟩ := hf 11 _ rfl
  simp at g0 g1 g2 g3 g4 g5 g6 g7 g8 g9 g10 g11
  subst g0 g1 g2 g3 g4 g5 g6 g7 g8 g9 g10 g11
  obtain ⟨b2, e2, _, _⟩ := DataW.trod_int Tryz.underlying3 h2
  obtain ⟨b3, e3, _, _⟩ := DataW.trod_int Tryz.underlying3 h3
  obtain ⟨b4, e4, _, _⟩ := DataW.trod_int Tryz.underlying3 h4
  obtain ⟨b5, e5, _, _⟩ := DataW.trod_int Tryz.underlying3 h5
  obtain ⟨b6, e6, _, _⟩ := DataW.trod_int Tryz.underlying3 h6
  obtain ⟨b7, e7, _, _⟩ := DataW.trod_int Tryz.underlying3 h7
  obtain ⟨b8, e8, _, _⟩ := DataW.trod_int Tryz.underlying3 h8
  obtain ⟨b9, e9, _, _⟩ := DataW.trod_int Tryz.underlying3 h9
  obtain ⟨b10, e10, _, _⟩ := DataW.trod_int Tryz.underlying3 h10
  obtain ⟨b11, e11, _, _⟩ := DataW.trod_int Tryz.underlying3 h11
  simp at e2 e3 e4 e5 e6 e7 e8 e9 e10 e11
  subst e2 e3 e4 e5 e6 e7 e8 e9 e10 e11
  obtain ⟨aw, nw, cw, e0⟩ := slice_form Tryz.underlying22 h0
  obtain ⟨ac, nc, cc, e1⟩ := slice_form Tryz.underlying23 h1
  simp at e0 e1
  subst e0 e1
  obtain ⟨lw, hw1, hw2⟩ := open_texts (d := y0.1) (p := y0.2) Tryz.underlying22 Tryz.underlying9 (by kernel_rfl) ⟨n0, by simpa [Value.cells] using h0⟩
  obtain ⟨lk, hk1, hk2⟩ := open_keys (d := y1.1) (p := y1.2) ⟨n1, by simpa [Value.cells] using h1⟩
  exact ⟨⟨aw, nw, cw, ac, nc, cc, lw, lk, b2, b3, b4, b5, b6, b7, b8, b9, b10, b11⟩, rfl, hw1, hk1, hw2, hk2⟩
end
end
end Go.Proofs.YtinkbgeckjbnbaaGreat
