/- How an argument is opened that is a slice whose elements are one cell each. -/
import Derived.Test.YtjhkdbcfkaaffaaRdE
namespace Go.Proofs.Ytjhkdbcfkaaffaa
open Go.RowKit Go.ChangeShapes Go.WideShapes Go.Deep
set_option linter.unusedVariables false
section
variable {H : Type} {enc : TypeId × Value → H} {P : Program} {w : World} {base : Nat} {spare : Nat → Bool} {held : Bool}
set_option maxRecDepth 100000 in
theorem open_rd1 {α : Type} (en : α → Value) (good : α → Prop) (hinh : Nonempty α) {t e : TypeId} {d : DataW H} {p : List MemPlace} (ht : P.underlying t = some (.slice e)) (hc : P.cellsOf e = 1) {a : Option Addr} {len cap : Nat}
    (dec : ∀ v (n : Nat) (y : DataW H × List MemPlace), DataW.trod enc P w base spare held n e [v] = some y → ∃ x : α, good x ∧ v = en x)
    (h : DataW.Trod enc P w base spare held t (.slice a len cap) d p) : ∃ l : List α, Rd w a len cap (l.map en) ∧ ∀ x ∈ l, good x := by
  obtain ⟨fuel, hf⟩ := h
  rcases open_slice1 ht hc hf with ⟨hcs, _⟩ | ⟨ad, len', cap', m, n, V, D, Pl, hcs, _, hl, hm, hmm, _, hi⟩
  · simp [Value.cells] at hcs
    obtain ⟨rfl, rfl, rfl⟩ := hcs
    exact ⟨[], rd_nil _ _ rfl, by simp⟩
  · simp [Value.cells] at hcs
    obtain ⟨rfl, rfl, rfl⟩ := hcs
    have hlm : len ≤ m := by rw [hmm]; split <;> omega
    have hex' : ∀ i, ∃ x : α, i < len → good x ∧ w.cell? (ad.add i) = some (en x) := by
      intro i
      by_cases hil : i < len
      · obtain ⟨h1, h2⟩ := hi i (by omega)
        obtain ⟨x, hg, hx⟩ := dec _ _ _ h2
        exact ⟨x, fun _ => ⟨hg, by rw [h1, hx]⟩⟩
      · obtain ⟨x⟩ := hinh; exact ⟨x, fun h => absurd h hil⟩
    obtain ⟨g, hg⟩ := Classical.axiomOfChoice hex'
    refine ⟨(List.range len).map g, ⟨by simp, hl, hm, by simp, fun i hil => ?_⟩, fun x hx => ?_⟩
    · obtain ⟨b, off, spot⟩ := ad
      have hcell := (hg i hil).2
      have hc0 := (hg 0 (by omega)).2
      have hspot : spot = none := by simpa [Addr.add] using World.cell?_spot hc0
      subst hspot
      have hlt := cell?_lt hc0
      rw [Addr.add_lit] at hlt
      refine ⟨b, off, rfl, hlt, ?_⟩
      rw [Addr.add_lit] at hcell
      rw [hcell]; simp [hil]
    · simp only [List.mem_map, List.mem_range] at hx
      obtain ⟨i, hi', rfl⟩ := hx
      exact (hg i hi').1
set_option maxRecDepth 100000 in
theorem open_ints64 {t e : TypeId} {d : DataW H} {p : List MemPlace} (ht : P.underlying t = some (.slice e)) (he : P.underlying e = some (.int .i64)) (hc : P.cellsOf e = 1) {a : Option Addr} {len cap : Nat}
    (h : DataW.Trod enc P w base spare held t (.slice a len cap) d p) : ∃ l : List Int, Rd w a len cap (l.map (Value.int .i64)) ∧ ∀ n ∈ l, -9223372036854775808 ≤ n ∧ n ≤ 9223372036854775807 :=
  open_rd1 (Value.int .i64) _ ⟨0⟩ ht hc (fun v n y h => by
    obtain ⟨b, e0, _, g⟩ := DataW.trod_int he h
    simp at e0
    exact ⟨b, bounds_i64 g, e0⟩) h
set_option maxRecDepth 100000 in
theorem open_bools {t e : TypeId} {d : DataW H} {p : List MemPlace} (ht : P.underlying t = some (.slice e)) (he : P.underlying e = some .bool) (hc : P.cellsOf e = 1) {a : Option Addr} {len cap : Nat}
    (h : DataW.Trod enc P w base spare held t (.slice a len cap) d p) : ∃ l : List Bool, Rd w a len cap (l.map Value.bool) ∧ ∀ n ∈ l, True :=
  open_rd1 Value.bool _ ⟨false⟩ ht hc (fun v n y h => by
    obtain ⟨b, e0, _⟩ := DataW.trod_bool he h
    simp at e0
    exact ⟨b, trivial, e0⟩) h
set_option maxRecDepth 100000 in
theorem open_texts {t e : TypeId} {d : DataW H} {p : List MemPlace} (ht : P.underlying t = some (.slice e)) (he : P.underlying e = some .string) (hc : P.cellsOf e = 1) {a : Option Addr} {len cap : Nat}
    (h : DataW.Trod enc P w base spare held t (.slice a len cap) d p) : ∃ l : List ByteArray, Rd w a len cap (l.map Value.string) ∧ ∀ s ∈ l, s.size ≤ maxLen :=
  open_rd1 Value.string _ ⟨ByteArray.empty⟩ ht hc (fun v n y h => by
    obtain ⟨b, e0, _, g⟩ := DataW.trod_string he h
    simp at e0
    exact ⟨b, g, e0⟩) h
end
end Go.Proofs.Ytjhkdbcfkaaffaa
