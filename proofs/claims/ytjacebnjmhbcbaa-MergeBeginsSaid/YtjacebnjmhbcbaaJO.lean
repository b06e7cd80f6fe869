/- How an argument is opened that is a slice whose elements are one cell each. -/
import Derived.Test.YtjacebnjmhbcbaaRdE
import Derived.Lib.SmallJoins
import Derived.Test.YtjacebnjmhbcbaaKeyL
namespace Go.Proofs.Ytjacebnjmhbcbaa
open Go.RowKit Go.ChangeShapes Go.WideShapes Go.Deep
set_option linter.unusedVariables false
section
variable {H : Type} {enc : TypeId × Value → H} {P : Program} {w : World} {base : Nat} {spare : Nat → Bool} {held : Bool}
theorem open_rd1 {α : Type} (en : α → Value) (good : α → Prop) (hinh : Nonempty α) {t e : TypeId} {d : DataW H} {p : List MemPlace} (ht : P.underlying t = some (.slice e)) (hc : P.cellsOf e = 1) {a : Option Addr} {len cap : Nat}
    (dec : ∀ v (n : Nat) (y : DataW H × List MemPlace), DataW.trod enc P w base spare held n e [v] = some y → ∃ x : α, good x ∧ v = en x)
    (h : DataW.Trod enc P w base spare held t (.slice a len cap) d p) : ∃ l : List α, Rd w a len cap (l.map en) ∧ ∀ x ∈ l, good x := by
  obtain ⟨fuel, hf⟩ := h
  rcases open_slice1 ht hc hf with ⟨hcs, _⟩ | ⟨ad, len', cap', m, n, V, D, Pl, hcs, _, hl, hm, hmm, _, hi⟩
  · simp [Value.cells] at hcs
    obtain ⟨rfl, rfl, rfl⟩ := hcs
    exact ⟨[], rd_nil _ _ rfl, by simp⟩
  · simp [Value.cells] at hcs
    obtain ⟨rfl, rfl, rfl⟩ := hcs
    have hlm : len ≤ m := by rw [hmm]; split <;> omega
    have hex' : ∀ i, ∃ x : α, i < len → good x ∧ w.cell? (ad.add i) = some (en x) := by
      intro i
      by_cases hil : i < len
      · obtain ⟨h1, h2⟩ := hi i (by omega)
        obtain ⟨x, hg, hx⟩ := dec _ _ _ h2
        exact ⟨x, fun _ => ⟨hg, by rw [h1, hx]⟩⟩
      · obtain ⟨x⟩ := hinh; exact ⟨x, fun h => absurd h hil⟩
    obtain ⟨g, hg⟩ := Classical.axiomOfChoice hex'
    refine ⟨(List.range len).map g, ⟨by simp, hl, hm, by simp, fun i hil => ?_⟩, fun x hx => ?_⟩
    · obtain ⟨b, off, spot⟩ := ad
      have hcell := (hg i hil).2
      have hc0 := (hg 0 (by omega)).2
      have hspot : spot = none := by simpa [Addr.add] using World.cell?_spot hc0
      subst hspot
      have hlt := cell?_lt hc0
      rw [Addr.add_lit] at hlt
      refine ⟨b, off, rfl, hlt, ?_⟩
      rw [Addr.add_lit] at hcell
      rw [hcell]; simp [hil]
    · simp only [List.mem_map, List.mem_range] at hx
      obtain ⟨i, hi', rfl⟩ := hx
      exact (hg i hi').1
theorem open_ints64 {t e : TypeId} {d : DataW H} {p : List MemPlace} (ht : P.underlying t = some (.slice e)) (he : P.underlying e = some (.int .i64)) (hc : P.cellsOf e = 1) {a : Option Addr} {len cap : Nat}
    (h : DataW.Trod enc P w base spare held t (.slice a len cap) d p) : ∃ l : List Int, Rd w a len cap (l.map (Value.int .i64)) ∧ ∀ n ∈ l, -9223372036854775808 ≤ n ∧ n ≤ 9223372036854775807 :=
  open_rd1 (Value.int .i64) _ ⟨0⟩ ht hc (fun v n y h => by
    obtain ⟨b, e0, _, g⟩ := DataW.trod_int he h
    simp at e0
    exact ⟨b, bounds_i64 g, e0⟩) h
theorem open_bools {t e : TypeId} {d : DataW H} {p : List MemPlace} (ht : P.underlying t = some (.slice e)) (he : P.underlying e = some .bool) (hc : P.cellsOf e = 1) {a : Option Addr} {len cap : Nat}
    (h : DataW.Trod enc P w base spare held t (.slice a len cap) d p) : ∃ l : List Bool, Rd w a len cap (l.map Value.bool) ∧ ∀ n ∈ l, True :=
  open_rd1 Value.bool _ ⟨false⟩ ht hc (fun v n y h => by
    obtain ⟨b, e0, _⟩ := DataW.trod_bool he h
    simp at e0
    exact ⟨b, trivial, e0⟩) h
theorem open_texts {t e : TypeId} {d : DataW H} {p : List MemPlace} (ht : P.underlying t = some (.slice e)) (he : P.underlying e = some .string) (hc : P.cellsOf e = 1) {a : Option Addr} {len cap : Nat}
    (h : DataW.Trod enc P w base spare held t (.slice a len cap) d p) : ∃ l : List ByteArray, Rd w a len cap (l.map Value.string) ∧ ∀ s ∈ l, s.size ≤ maxLen :=
  open_rd1 Value.string _ ⟨ByteArray.empty⟩ ht hc (fun v n y h => by
    obtain ⟨b, e0, _, g⟩ := DataW.trod_string he h
    simp at e0
    exact ⟨b, g, e0⟩) h
end
end Go.Proofs.Ytjacebnjmhbcbaa
/- How an argument is opened that is a slice of bytes. -/
namespace Go.Proofs.Ytjacebnjmhbcbaa
open Go.RowKit Go.ChangeShapes Go.WideShapes Go.Deep
set_option linter.unusedVariables false
section
variable {H : Type} {enc : TypeId × Value → H} {P : Program} {w : World} {base : Nat} {spare : Nat → Bool} {held : Bool}
theorem open_bytes {t e : TypeId} {d : DataW H} {p : List MemPlace} (ht : P.underlying t = some (.slice e)) (he : P.underlying e = some (.int .u8)) (hc : P.cellsOf e = 1) {a : Option Addr} {len cap : Nat}
    (h : DataW.Trod enc P w base spare held t (.slice a len cap) d p) : ∃ l : List Nat, Rd w a len cap (u8s l) ∧ ∀ n ∈ l, n < 256 :=
  open_rd1 (fun x : Nat => Value.int .u8 (x : Int)) _ ⟨0⟩ ht hc (fun v n y h => by
    obtain ⟨b, e0, _, g⟩ := DataW.trod_int he h
    simp at e0
    have hb := bounds_u8 g
    exact ⟨b.toNat, (by omega : b.toNat < 256), by rw [e0, Int.toNat_of_nonneg (by omega)]⟩) h
end
end Go.Proofs.Ytjacebnjmhbcbaa
/- How arguments are opened: a slice of elements of any shape; a struct of one-cell fields by value. -/
namespace Go.Proofs.Ytjacebnjmhbcbaa
open Go.RowKit Go.ChangeShapes Go.WideShapes Go.Deep Go.Joins
set_option linter.unusedVariables false
section
variable {H : Type} {enc : TypeId × Value → H} {P : Program} {w : World} {base : Nat} {spare : Nat → Bool} {held : Bool}
theorem open_rdG {α : Type} (en : α → List Value) (size : Nat) (hinh : Nonempty α) {t e : TypeId} {d : DataW H} {p : List MemPlace} (ht : P.underlying t = some (.slice e)) (hC : P.cellsOf e = size) (hsp : size ≠ 0) {a : Option Addr} {len cap : Nat} (good : α → Prop)
    (dec : ∀ (cs : List Value) (n : Nat) (y : DataW H × List MemPlace), cs.length = size → DataW.trod enc P w base spare held n e cs = some y → ∃ x : α, good x ∧ en x = cs)
    (h : DataW.Trod enc P w base spare held t (.slice a len cap) d p) : ∃ l : List α, RdE en size w a len cap l ∧ ∀ x ∈ l, good x := by
  obtain ⟨fuel, hf⟩ := h
  rcases open_slice ht hf with ⟨hcs, _⟩ | ⟨ad, len', cap', m, n, D, Pl, hcs, _, hl, hm, hmm, _, hi⟩
  · simp [Value.cells] at hcs
    obtain ⟨rfl, rfl, rfl⟩ := hcs
    exact ⟨[], ⟨rfl, Nat.le_refl _, by unfold maxLen; omega, fun _ => rfl, fun i x hx => by simp at hx⟩, by simp⟩
  · simp [Value.cells] at hcs
    obtain ⟨rfl, rfl, rfl⟩ := hcs
    have hlm : len ≤ m := by rw [hmm]; split <;> omega
    rw [hC] at hi
    have hex : ∀ i, i < len → ∃ x : α, good x ∧ ∀ j, j < size → w.cell? (ad.add (i * size + j)) = (en x)[j]? := by
      intro i hil
      obtain ⟨cs', hc, ht'⟩ := hi i (by omega)
      obtain ⟨_, hcl, hat⟩ := World.cells?_some hc
      obtain ⟨x, hg, hx⟩ := dec cs' n _ hcl ht'
      refine ⟨x, hg, fun j hj => ?_⟩
      rw [← Go.Deep.add_add, hat j hj, hx]
    have hchoose : ∃ g : Nat → α, ∀ i, i < len → good (g i) ∧ ∀ j, j < size → w.cell? (ad.add (i * size + j)) = (en (g i))[j]? := by
      have hex' : ∀ i, ∃ x : α, i < len → good x ∧ ∀ j, j < size → w.cell? (ad.add (i * size + j)) = (en x)[j]? := by
        intro i
        by_cases hil : i < len
        · obtain ⟨x, hx⟩ := hex i hil; exact ⟨x, fun _ => hx⟩
        · obtain ⟨x⟩ := hinh; exact ⟨x, fun h => absurd h hil⟩
      exact Classical.axiomOfChoice hex'
    obtain ⟨g, hg⟩ := hchoose
    refine ⟨(List.range len).map g, ⟨by simp, hl, hm, by simp, fun i x hx => ?_⟩, fun x hx => ?_⟩
    · have hil : i < len := by
        have := (List.getElem?_eq_some_iff.1 hx).1; simpa using this
      have hx' : x = g i := by simp [hil] at hx; exact hx.symm
      subst hx'
      obtain ⟨b, off, spot⟩ := ad
      have hcell := (hg i hil).2
      obtain ⟨v0, hv0⟩ : ∃ v0, w.cell? (({ block := b, off := off, spot := spot } : Addr).add (0 * size + 0)) = some v0 := by
        obtain ⟨cs', hc, ht'⟩ := hi 0 (by omega)
        obtain ⟨_, hcl, hat⟩ := World.cells?_some hc
        have := hat 0 (by omega)
        rw [Go.Deep.add_add] at this
        exact ⟨cs'[0]'(by omega), by rw [this]; exact List.getElem?_eq_getElem (by omega)⟩
      have hspot : spot = none := by simpa [Addr.add] using World.cell?_spot hv0
      subst hspot
      have hlt := cell?_lt hv0
      rw [Addr.add_lit] at hlt
      refine ⟨b, off, rfl, hlt, fun j hj => ?_⟩
      have := hcell j hj
      rw [Addr.add_lit] at this
      rw [← this, Nat.add_assoc]
    · simp only [List.mem_map, List.mem_range] at hx
      obtain ⟨i, hi', rfl⟩ := hx
      exact (hg i hi').1
/-- a struct of one-cell fields, by value -/
theorem open_aggn {b0 : Nat} {r : Reach} {t : TypeId} {fs : Array Field} {v : Value} {d : DataW H} {p : List MemPlace} (hs : P.underlying t = some (.struct fs)) (hone : oneCellFields P fs = true) (hC : P.cellsOf t = fs.size)
    (hv : Value.okWide P w r b0 t v) (h : DataW.Trod enc P w base spare held t v d p) :
    ∃ cs : Array Value, v = .agg cs ∧ cs.size = fs.size ∧ ∀ (j : Nat) (f : Field), fs[j]? = some f → ∃ (u : Value) (n : Nat) (y : DataW H × List MemPlace), cs[j]? = some u ∧ DataW.trod enc P w base spare held n f.type [u] = some y := by
  obtain ⟨cs, rfl, hsz⟩ := okWide_struct hs hv
  obtain ⟨fuel, hf⟩ := h
  obtain ⟨xs, n, _, _, hl, hlen, hff⟩ := DataW.trod_struct hs hf
  refine ⟨cs, rfl, hsz.trans hC, fun j f hj => ?_⟩
  have hjs : j < fs.size := (Array.getElem?_eq_some_iff.1 hj).1
  have hjc : j < cs.size := by rw [hsz.trans hC]; exact hjs
  obtain ⟨o0, k0⟩ := hone_of hone j f hj
  have h1 := hff j f hj
  obtain ⟨y, hy⟩ : ∃ y, xs[j]? = some y := ⟨_, List.getElem?_eq_getElem (show j < xs.length by rw [hlen]; simpa using hjs)⟩
  have e : ((Value.agg cs).cells.toList.drop f.offset).take (P.cellsOf f.type) = [cs[j]] := by
    rw [o0, k0]
    simp only [Value.cells]
    rw [List.drop_eq_getElem_cons (by simpa using hjc)]
    simp
  rw [e] at h1
  exact ⟨cs[j], n, y, Array.getElem?_eq_getElem hjc, h1.trans hy⟩
theorem arr12 {α : Type} {cs : Array α} (h : cs.size = 12) : ∃ c0 c1 c2 c3 c4 c5 c6 c7 c8 c9 c10 c11, cs = #[c0, c1, c2, c3, c4, c5, c6, c7, c8, c9, c10, c11] := by
  obtain ⟨l⟩ := cs
  match l, h with
  | [c0, c1, c2, c3, c4, c5, c6, c7, c8, c9, c10, c11], _ => exact ⟨c0, c1, c2, c3, c4, c5, c6, c7, c8, c9, c10, c11, rfl⟩
theorem list12 {α : Type} {cs : List α} (h : cs.length = 12) : ∃ c0 c1 c2 c3 c4 c5 c6 c7 c8 c9 c10 c11, cs = [c0, c1, c2, c3, c4, c5, c6, c7, c8, c9, c10, c11] := by
  match cs, h with
  | [c0, c1, c2, c3, c4, c5, c6, c7, c8, c9, c10, c11], _ => exact ⟨c0, c1, c2, c3, c4, c5, c6, c7, c8, c9, c10, c11, rfl⟩
theorem list3 {α : Type} {cs : List α} (h : cs.length = 3) : ∃ c0 c1 c2, cs = [c0, c1, c2] := by
  match cs, h with
  | [c0, c1, c2], _ => exact ⟨c0, c1, c2, rfl⟩
end
end Go.Proofs.Ytjacebnjmhbcbaa
/- Items and queries, as they come in. -/
namespace Go.Proofs.Ytjacebnjmhbcbaa
open Go.RowKit Go.ChangeShapes Go.WideShapes Go.Deep Go.Joins
set_option linter.unusedVariables false
section
variable {H : Type} {enc : TypeId × Value → H} {w : World} {base : Nat} {spare : Nat → Bool} {held : Bool}
theorem arr2 {α : Type} {cs : Array α} (h : cs.size = 2) : ∃ c0 c1, cs = #[c0, c1] := by
  obtain ⟨l⟩ := cs
  match l, h with
  | [c0, c1], _ => exact ⟨c0, c1, rfl⟩
theorem arr3 {α : Type} {cs : Array α} (h : cs.size = 3) : ∃ c0 c1 c2, cs = #[c0, c1, c2] := by
  obtain ⟨l⟩ := cs
  match l, h with
  | [c0, c1, c2], _ => exact ⟨c0, c1, c2, rfl⟩
set_option maxRecDepth 100000 in
theorem open_item {b0 : Nat} {r : Reach} {v : Value} {d : DataW H} {p : List MemPlace} (hv : Value.okWide Try.prog w r b0 31 v) (h : DataW.Trod enc Try.prog w base spare held 31 v d p) :
    ∃ x : KeyL, v = .agg #[.int .i64 x.1, .string x.2] ∧ x.2.size ≤ maxLen := by
  obtain ⟨cs, rfl, hsz, hf⟩ := open_aggn Try.underlying31 (by kernel_rfl) (by kernel_rfl) hv h
  obtain ⟨c0, c1, rfl⟩ := arr2 hsz
  obtain ⟨u0, n0, y0, g0, h0⟩ := hf 0 _ rfl
  obtain ⟨u1, n1, y1, g1, h1⟩ := hf 1 _ rfl
  simp at g0 g1
  subst g0 g1
  obtain ⟨b0, e0, _, _⟩ := DataW.trod_int Try.underlying3 h0
  obtain ⟨b1, e1, _, g1⟩ := DataW.trod_string Try.underlying9 h1
  simp at e0 e1
  subst e0 e1
  exact ⟨(b0, b1), rfl, g1⟩
set_option maxRecDepth 100000 in
theorem open_query {b0 : Nat} {r : Reach} {v : Value} {d : DataW H} {p : List MemPlace} (hv : Value.okWide Try.prog w r b0 59 v) (h : DataW.Trod enc Try.prog w base spare held 59 v d p) :
    ∃ (q : ByteArray) (k n : Int), v = .agg #[.string q, .int .i64 k, .int .i64 n] ∧ q.size ≤ maxLen ∧ (Lit.int .i64 k).wf = true ∧ (Lit.int .i64 n).wf = true := by
  obtain ⟨cs, rfl, hsz, hf⟩ := open_aggn Try.underlying59 (by kernel_rfl) (by kernel_rfl) hv h
  obtain ⟨c0, c1, c2, rfl⟩ := arr3 hsz
  obtain ⟨u0, n0, y0, g0, h0⟩ := hf 0 _ rfl
  obtain ⟨u1, n1, y1, g1, h1⟩ := hf 1 _ rfl
  obtain ⟨u2, n2, y2, g2, h2⟩ := hf 2 _ rfl
  simp at g0 g1 g2
  subst g0 g1 g2
  obtain ⟨b0, e0, _, g0⟩ := DataW.trod_string Try.underlying9 h0
  obtain ⟨b1, e1, _, g1⟩ := DataW.trod_int Try.underlying3 h1
  obtain ⟨b2, e2, _, g2⟩ := DataW.trod_int Try.underlying3 h2
  simp at e0 e1 e2
  subst e0 e1 e2
  exact ⟨b0, b1, b2, rfl, g0, g1, g2⟩
set_option maxRecDepth 100000 in
theorem open_items {d : DataW H} {p : List MemPlace} {a : Option Addr} {len cap : Nat}
    (h : DataW.Trod enc Try.prog w base spare held 22 (.slice a len cap) d p) : ∃ l : List KeyL, RdE KeyL.cells 2 w a len cap l ∧ ∀ x ∈ l, x.2.size ≤ maxLen := by
  refine open_rdE KeyL.cells ⟨(0, ⟨#[]⟩)⟩ Try.underlying22 Try.underlying31 (by kernel_rfl) (by kernel_rfl) (fun x => x.2.size ≤ maxLen) ?_ h (by decide)
  intro vs hv
  obtain ⟨n0, y0, h0⟩ := hv 0 _ rfl
  obtain ⟨n1, y1, h1⟩ := hv 1 _ rfl
  obtain ⟨b0, e0, _, g0⟩ := DataW.trod_int Try.underlying3 h0
  obtain ⟨b1, e1, _, g1⟩ := DataW.trod_string Try.underlying9 h1
  simp at e0 e1
  refine ⟨(b0, b1), g1, fun j hj => ?_⟩
  have hj4 : j < 2 := hj
  match j, hj4 with
  | 0, _ => simp [KeyL.cells, e0]
  | 1, _ => simp [KeyL.cells, e1]
end
end Go.Proofs.Ytjacebnjmhbcbaa
