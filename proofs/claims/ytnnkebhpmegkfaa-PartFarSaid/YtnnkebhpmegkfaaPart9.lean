/- The plain law of PartFiner: cuts with one less. -/
import Derived.Test.YtnnkebhpmegkfaaPart7
import Derived.Test.YtnnkebhpmegkfaaKit2
namespace Go.Proofs.Ytnnkebhpmegkfaa
open Go.RowKit
set_option linter.unusedVariables false

theorem kless_trans {a b c : KeyL} (h : kless a b = true) (k : kless b c = true) : kless a c = true := by
  unfold kless at *
  simp only [decide_eq_true_eq] at *
  exact cmpK_trans h k
theorem risesK_pw (l : List KeyL) : risesK l (l.length - 1) = true ↔ l.Pairwise (fun a b => kless a b = true) := by
  rw [List.pairwise_iff_getElem]
  unfold risesK
  rw [List.all_eq_true]
  have hk : ∀ i (h : i < l.length), keyAt l i = l[i] := by intro i h; unfold keyAt; simp [h]
  constructor
  · intro h
    have step : ∀ d i (hi : i < l.length) (hj : i + d + 1 < l.length), kless l[i] l[i + d + 1] = true := by
      intro d
      induction d with
      | zero =>
        intro i hi hj
        have := h i (by simp; omega)
        rw [hk i hi, hk (i + 1) hj] at this
        exact this
      | succ d ih =>
        intro i hi hj
        refine kless_trans (ih i hi (by omega)) ?_
        have := h (i + d + 1) (by simp; omega)
        rw [hk _ (by omega), hk _ (by omega)] at this
        exact this
    intro i j hi hj hij
    obtain ⟨d, rfl⟩ : ∃ d, j = i + d + 1 := ⟨j - i - 1, by omega⟩
    exact step d i hi hj
  · intro h x hx
    simp at hx
    rw [hk x (by omega), hk (x + 1) (by omega)]
    exact h x (x + 1) (by omega) (by omega) (by omega)
theorem goodE_iff (l : List KeyL) : goodE l = 0 ↔ l.length ≤ 5 ∧ (∀ x ∈ l, badK x = false) ∧ l.Pairwise (fun a b => kless a b = true) := by
  rw [← risesK_pw]
  unfold goodE
  by_cases h5 : 5 < l.length
  · rw [if_pos h5]; constructor
    · intro h; simp at h
    · rintro ⟨h, _⟩; omega
  · rw [if_neg h5]
    have hany : (¬ l.any badK = true) ↔ ∀ x ∈ l, badK x = false := by simp
    by_cases hb : l.any badK = true
    · rw [if_pos hb]; constructor
      · intro h; simp at h
      · rintro ⟨_, h, _⟩; exact absurd hb (hany.2 h)
    · rw [if_neg hb]
      by_cases hr : risesK l (l.length - 1) = true
      · rw [if_pos hr]; exact ⟨fun _ => ⟨by omega, hany.1 hb, hr⟩, fun _ => rfl⟩
      · rw [if_neg hr]; constructor
        · intro h; simp at h
        · rintro ⟨_, _, h⟩; exact absurd h hr
def lessL (l : List KeyL) (k : Nat) : List KeyL := l.take k ++ l.drop (k + 1)
theorem lessL_sub (l : List KeyL) (k : Nat) : (lessL l k).Sublist l := by
  unfold lessL
  conv => rhs; rw [← List.take_append_drop k l]
  refine List.Sublist.append (List.Sublist.refl _) ?_
  rw [← List.drop_drop]; exact List.drop_sublist 1 _
theorem lessL_good (l : List KeyL) (k : Nat) (h : goodE l = 0) : goodE (lessL l k) = 0 := by
  rw [goodE_iff] at h ⊢
  have hs := lessL_sub l k
  exact ⟨Nat.le_trans hs.length_le h.1, fun x hx => h.2.1 x (hs.subset hx), h.2.2.sublist hs⟩
theorem lessL_below (l : List KeyL) (k : Nat) (x y : KeyL) (hk : l[k]? = some y) : belowN l x = belowN (lessL l k) x + (if kless x y then 0 else 1) := by
  unfold belowN lessL
  have hlt := (List.getElem?_eq_some_iff.1 hk).1
  have e : l = l.take k ++ y :: l.drop (k + 1) := by
    rw [← (List.getElem?_eq_some_iff.1 hk).2]
    simp
  conv => lhs; rw [e]
  simp only [List.filter_append, List.filter_cons, List.length_append]
  cases kless x y <;> simp <;> omega
theorem lessL_of (l : List KeyL) (k : Nat) (s : ByteArray) (y : KeyL) (hk : l[k]? = some y) (hw : isWord s = true) : ofN (lessL l k) s = if kless (tLen s, s) y then ofN l s else ofN l s - 1 := by
  unfold ofN
  rw [if_pos hw, if_pos hw, lessL_below l k _ y hk]
  cases kless (tLen s, s) y <;> simp
theorem lessL_len (l : List KeyL) (k : Nat) (h : k < l.length) : (lessL l k).length = l.length - 1 := by
  unfold lessL; simp; omega
end Go.Proofs.Ytnnkebhpmegkfaa
