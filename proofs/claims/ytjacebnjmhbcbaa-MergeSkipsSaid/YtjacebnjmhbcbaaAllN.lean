/- Plain laws of words in order, and of those that are near (those of Wo and Rk8 that need no walk of the lists' functions). -/
import Derived.Test.YtjacebnjmhbcbaaRk1
namespace Go.Proofs.Ytjacebnjmhbcbaa
open Go.RowKit
set_option linter.unusedVariables false

theorem tless_trans {a b c : ByteArray} (h : tless a b = true) (k : tless b c = true) : tless a c = true := by
  unfold tless at *
  simp only [decide_eq_true_eq] at *
  exact cb_trans _ _ _ h k
theorem risesT_pw (l : List ByteArray) : risesT l (l.length - 1) = true → l.Pairwise (fun a b => tless a b = true) := by
  rw [List.pairwise_iff_getElem]
  unfold risesT
  rw [List.all_eq_true]
  have hk : ∀ i (h : i < l.length), tAt l i = l[i] := by intro i h; unfold tAt; simp [h]
  intro h
  have step : ∀ d i (hi : i < l.length) (hj : i + d + 1 < l.length), tless l[i] l[i + d + 1] = true := by
    intro d
    induction d with
    | zero =>
      intro i hi hj
      have := h i (by simp; omega)
      rw [hk i hi, hk (i + 1) hj] at this
      exact this
    | succ d ih =>
      intro i hi hj
      refine tless_trans (ih i hi (by omega)) ?_
      have := h (i + d + 1) (by simp; omega)
      rw [hk _ (by omega), hk _ (by omega)] at this
      exact this
  intro i j hi hj hij
  obtain ⟨d, rfl⟩ : ∃ d, j = i + d + 1 := ⟨j - i - 1, by omega⟩
  exact step d i hi hj
theorem goodT_of {l : List ByteArray} (h : goodT l = 0) : l.length ≤ 60 ∧ (∀ x ∈ l, isWord x = true) ∧ l.Pairwise (fun a b => tless a b = true) := by
  unfold goodT at h
  by_cases h5 : 60 < l.length
  · rw [if_pos h5] at h; simp at h
  · rw [if_neg h5] at h
    by_cases hb : (l.any fun s => !isWord s) = true
    · rw [if_pos hb] at h; simp at h
    · rw [if_neg hb] at h
      by_cases hr : risesT l (l.length - 1) = true
      · exact ⟨by omega, by simpa using hb, risesT_pw l hr⟩
      · rw [if_neg hr] at h; simp at h
theorem cb_refl : ∀ l : List UInt8, Lib.compareBytes l l = 0
  | [] => rfl
  | x :: l => by simp [Lib.compareBytes, cb_refl l]
theorem tless_irr (a : ByteArray) : tless a a = false := by
  unfold tless cmpT
  rw [decide_eq_false_iff_not, cb_refl]; omega
def RiseT (l : List ByteArray) : Prop := l.Pairwise (fun a b => tless a b = true)
theorem distT_sym (s t : ByteArray) : distT s t = distT t s := by
  unfold distT
  cases runesO s <;> cases runesO t <;> try rfl
  exact distL_sym _ _
theorem nearI_mem {words : List ByteArray} {s : ByteArray} {k : Int} {x : KeyL} : x ∈ nearI words s k ↔ x.2 ∈ words ∧ x.1 = distT x.2 s ∧ 0 ≤ x.1 ∧ x.1 ≤ k := by
  unfold nearI
  rw [List.mem_filterMap]
  constructor
  · rintro ⟨w, hw, h⟩
    unfold nearO nearT at h
    by_cases hd : 0 ≤ distT s w ∧ distT s w ≤ k
    · simp only [if_pos hd, if_true] at h
      obtain rfl := Option.some.inj h
      exact ⟨hw, distT_sym _ _, hd.1, hd.2⟩
    · simp only [if_neg hd] at h
      cases h
  · rintro ⟨hw, h1, h2, h3⟩
    refine ⟨x.2, hw, ?_⟩
    unfold nearO nearT
    have hh : 0 ≤ x.1 ∧ x.1 ≤ k := ⟨h2, h3⟩
    rw [distT_sym s x.2, ← h1]
    simp only [if_pos hh]
    rfl
theorem allL_mem {words : List ByteArray} {s : ByteArray} {k : Int} {x : KeyL} : x ∈ allL words s k ↔ x.2 ∈ words ∧ x.1 = distT x.2 s ∧ 0 ≤ x.1 ∧ x.1 ≤ k := by unfold allL; rw [sortL_mem]; exact nearI_mem
theorem allL_nodup {words : List ByteArray} (s : ByteArray) (k : Int) (h : RiseT words) : ((allL words s k).map (·.2)).Nodup := by
  have hn : words.Nodup := h.imp (fun {a b} h e => by subst e; rw [tless_irr] at h; cases h)
  have h1 : ((nearI words s k).map (·.2)).Sublist words := by
    unfold nearI
    clear h hn
    induction words with
    | nil => exact List.Sublist.refl _
    | cons w r ih =>
      rw [List.filterMap_cons]
      split
      · exact ih.cons w
      · rename_i y hy
        unfold nearO at hy
        split at hy
        · obtain rfl := Option.some.inj hy
          rw [List.map_cons]
          exact ih.cons_cons w
        · cases hy
  unfold allL
  exact ((sortL_perm _).map _).nodup_iff.2 (hn.sublist h1)
end Go.Proofs.Ytjacebnjmhbcbaa
