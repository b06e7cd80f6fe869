/- A slice of structs that reads as a list, whatever the element: its cells by 'enc'. And how such an argument is opened. -/
import Derived.Test.YtjacebnjmhbcbaaKit
import Derived.Deep.Slices
import Derived.Deep.Fields
import Derived.ChangeSame
import Derived.ProofKit
namespace Go.Proofs.Ytjacebnjmhbcbaa
open Go.RowKit Go.ChangeShapes Go.WideShapes Go.Deep
set_option linter.unusedVariables false

def RdE {α : Type} (enc : α → List Value) (size : Nat) (w : World) (a : Option Addr) (n c : Nat) (l : List α) : Prop :=
  l.length = n ∧ n ≤ c ∧ c ≤ maxLen ∧ (a = none → c = 0) ∧ ∀ i x, l[i]? = some x → ∃ b off, a = some ⟨b, off, none⟩ ∧ b < w.heap.size ∧ ∀ j, j < size → w.cell? ⟨b, off + i * size + j, none⟩ = (enc x)[j]?
theorem RdE.below {α : Type} {enc : α → List Value} {size : Nat} {w w' : World} {a : Option Addr} {n c B : Nat} {l : List α} (h : RdE enc size w a n c l) (hb : Below B w w') (hB : B = w.heap.size) : RdE enc size w' a n c l := by
  obtain ⟨h1, h2, h3, h4, h5⟩ := h
  subst hB
  refine ⟨h1, h2, h3, h4, fun i x hi => ?_⟩
  obtain ⟨b, off, e, hl, hc⟩ := h5 i x hi
  exact ⟨b, off, e, Nat.lt_of_lt_of_le hl hb.size, fun j hj => by rw [hb.cell (p := ⟨b, off + i * size + j, none⟩) hl]; exact hc j hj⟩
theorem RdE.nil0 {α : Type} {enc : α → List Value} {size : Nat} {w : World} {a : Option Addr} {n c : Nat} {l : List α} (h : RdE enc size w a n c l) : a = none → n = 0 ∧ c = 0 := fun e => by
  have := h.2.2.2.1 e; have := h.2.1; omega

section
variable {H : Type} {enc : TypeId × Value → H} {P : Program} {w : World} {base : Nat} {spare : Nat → Bool} {held : Bool}
theorem open_slice_fields {t e : TypeId} {fs : Array Field} {fuel : Nat} {cs : List Value} {x : DataW H × List MemPlace} (ht : P.underlying t = some (.slice e)) (he : P.underlying e = some (.struct fs))
    (hone : oneCellFields P fs = true) (hC : P.cellsOf e = fs.size) (h : DataW.trod enc P w base spare held fuel t cs = some x) :
    (cs = [.slice none 0 0] ∧ x = (.nil, [])) ∨
    ∃ (a : Addr) (len cap m : Nat) (D : Nat → DataW H) (Pl : Nat → List MemPlace), cs = [.slice (some a) len cap] ∧ base ≤ a.block ∧ len ≤ cap ∧ cap ≤ maxLen ∧ m = (if spare a.block then cap else len) ∧
      x = (.slice ((List.range len).map D) ((List.range (m - len)).map fun j => D (len + j)), MemPlace.row a (m * fs.size) ++ (List.range m).flatMap Pl) ∧
      ∀ i, i < m → ∃ (ys : List (DataW H × List MemPlace)) (n : Nat), D i = .agg (ys.map (·.1)) ∧ Pl i = ys.flatMap (·.2) ∧ ys.length = fs.size ∧
        ∀ (j : Nat) (f : Field), fs[j]? = some f → ∃ (v : Value) (y : DataW H × List MemPlace), w.cell? (a.add (i * fs.size + j)) = some v ∧ ys[j]? = some y ∧ DataW.trod enc P w base spare held n f.type [v] = some y := by
  rcases open_slice ht h with h0 | ⟨a, len, cap, m, n, D, Pl, hcs, hb, hl, hm, hmm, hx, hi⟩
  · exact .inl h0
  · refine .inr ⟨a, len, cap, m, D, Pl, hcs, hb, hl, hm, hmm, by rw [hC] at hx; exact hx, fun i him => ?_⟩
    obtain ⟨cs', hc, ht'⟩ := hi i him
    rw [hC] at hc
    obtain ⟨ys, n', hn', hy, hlen, hyl, hf⟩ := DataW.trod_struct he ht'
    obtain ⟨_, hcl, hat⟩ := World.cells?_some hc
    simp only [Prod.mk.injEq] at hy
    refine ⟨ys, n', hy.1, hy.2, hyl, fun j f hj => ?_⟩
    obtain ⟨ho, hk⟩ := hone_of hone j f hj
    have hjl : j < fs.size := (Array.getElem?_eq_some_iff.1 hj).1
    have hcell := hat j hjl
    have hv : cs'[j]? = some (cs'[j]'(by omega)) := List.getElem?_eq_getElem (by omega)
    have h1 := hf j f hj
    rw [ho, hk] at h1
    have hone' : (cs'.drop j).take 1 = [cs'[j]'(by omega)] := by
      rw [List.drop_eq_getElem_cons (by omega)]
      rfl
    rw [hone'] at h1
    have hys : ys[j]? = some (ys[j]'(by omega)) := List.getElem?_eq_getElem (by omega)
    refine ⟨_, _, ?_, hys, h1.trans hys⟩
    rw [← Go.Deep.add_add, hcell, hv]

/-- An argument that is a slice of structs of one-cell fields reads as a list, where each element's cells can be told by 'dec': from the fields' readings to an element. -/
theorem open_rdE {α : Type} (en : α → List Value) (hinh : Nonempty α) {t e : TypeId} {fs : Array Field} {d : DataW H} {p : List MemPlace} (ht : P.underlying t = some (.slice e)) (he : P.underlying e = some (.struct fs))
    (hone : oneCellFields P fs = true) (hC : P.cellsOf e = fs.size) {a : Option Addr} {len cap : Nat} (good : α → Prop)
    (dec : ∀ (vs : Nat → Value) , (∀ j f, fs[j]? = some f → ∃ (n : Nat) (y : DataW H × List MemPlace), DataW.trod enc P w base spare held n f.type [vs j] = some y) → ∃ x : α, good x ∧ ∀ j, j < fs.size → (en x)[j]? = some (vs j))
    (h : DataW.Trod enc P w base spare held t (.slice a len cap) d p) (hsp : fs.size ≠ 0) : ∃ l : List α, RdE en fs.size w a len cap l ∧ ∀ x ∈ l, good x := by
  obtain ⟨fuel, hf⟩ := h
  rcases open_slice_fields ht he hone hC hf with ⟨hcs, _⟩ | ⟨ad, len', cap', m, D, Pl, hcs, _, hl, hm, hmm, _, hi⟩
  · simp [Value.cells] at hcs
    obtain ⟨rfl, rfl, rfl⟩ := hcs
    exact ⟨[], ⟨rfl, Nat.le_refl _, by unfold maxLen; omega, fun _ => rfl, fun i x hx => by simp at hx⟩, by simp⟩
  · simp [Value.cells] at hcs
    obtain ⟨rfl, rfl, rfl⟩ := hcs
    have hlm : len ≤ m := by rw [hmm]; split <;> omega
    have hex : ∀ i, i < len → ∃ x : α, good x ∧ ∀ j, j < fs.size → w.cell? (ad.add (i * fs.size + j)) = (en x)[j]? := by
      intro i hil
      obtain ⟨ys, n, _, _, _, hfld⟩ := hi i (by omega)
      have hv : ∀ j, ∃ v, (∀ f, fs[j]? = some f → w.cell? (ad.add (i * fs.size + j)) = some v ∧ ∃ (n' : Nat) (y : DataW H × List MemPlace), DataW.trod enc P w base spare held n' f.type [v] = some y) := by
        intro j
        by_cases hj : j < fs.size
        · obtain ⟨v, y, h1, _, h3⟩ := hfld j fs[j] (Array.getElem?_eq_getElem hj)
          refine ⟨v, fun f hf' => ?_⟩
          rw [Array.getElem?_eq_getElem hj] at hf'
          obtain rfl := Option.some.inj hf'
          exact ⟨h1, n, y, h3⟩
        · refine ⟨undef, fun f hf' => ?_⟩
          rw [Array.getElem?_eq_none (by omega)] at hf'; simp at hf'
      obtain ⟨vs, hvs⟩ := Classical.axiomOfChoice hv
      obtain ⟨x, hg, hx⟩ := dec vs (fun j f hjf => (hvs j f hjf).2)
      exact ⟨x, hg, fun j hj => by rw [hx j hj]; exact (hvs j fs[j] (Array.getElem?_eq_getElem hj)).1⟩
    have hchoose : ∃ g : Nat → α, ∀ i, i < len → good (g i) ∧ ∀ j, j < fs.size → w.cell? (ad.add (i * fs.size + j)) = (en (g i))[j]? := by
      have hex' : ∀ i, ∃ x : α, i < len → good x ∧ ∀ j, j < fs.size → w.cell? (ad.add (i * fs.size + j)) = (en x)[j]? := by
        intro i
        by_cases hil : i < len
        · obtain ⟨x, hx⟩ := hex i hil; exact ⟨x, fun _ => hx⟩
        · obtain ⟨x⟩ := hinh; exact ⟨x, fun h => absurd h hil⟩
      exact Classical.axiomOfChoice hex'
    obtain ⟨g, hg⟩ := hchoose
    refine ⟨(List.range len).map g, ⟨by simp, hl, hm, by simp, fun i x hx => ?_⟩, fun x hx => ?_⟩
    · have hil : i < len := by
        have := (List.getElem?_eq_some_iff.1 hx).1; simpa using this
      have hx' : x = g i := by simp [hil] at hx; exact hx.symm
      subst hx'
      obtain ⟨b, off, spot⟩ := ad
      have hcell := (hg i hil).2
      have hc0 := (hg 0 (by omega)).2 0 (by omega)
      rw [Nat.zero_mul] at hc0
      obtain ⟨v0, hv0⟩ : ∃ v0, w.cell? (({ block := b, off := off, spot := spot } : Addr).add (0 + 0)) = some v0 := by
        obtain ⟨ys, n, _, _, _, hfld⟩ := hi 0 (by omega)
        obtain ⟨v, y, h1, _, h3⟩ := hfld 0 (fs[0]'(by omega)) (Array.getElem?_eq_getElem (by omega))
        rw [Nat.zero_mul] at h1
        exact ⟨v, h1⟩
      have hspot : spot = none := by simpa [Addr.add] using World.cell?_spot hv0
      subst hspot
      have hlt := cell?_lt hv0
      rw [Addr.add_lit] at hlt
      refine ⟨b, off, rfl, hlt, fun j hj => ?_⟩
      have := hcell j hj
      rw [Addr.add_lit] at this
      rw [← this, Nat.add_assoc]
    · simp only [List.mem_map, List.mem_range] at hx
      obtain ⟨i, hi', rfl⟩ := hx
      exact (hg i hi').1
end
end Go.Proofs.Ytjacebnjmhbcbaa
