/- The plain laws of PartWhole and PartFar: whose a word is, and how long it may be; slices put together again. -/
import Derived.Test.YtnnkebhpmegkfaaPart9
import Derived.Test.YtnnkebhpmegkfaaTexts3
namespace Go.Proofs.Ytnnkebhpmegkfaa
open Go.RowKit
set_option linter.unusedVariables false

/-- In cuts that rise those that a key is not below are the first ones. -/
theorem below_split : ∀ (l : List KeyL) (k : KeyL), l.Pairwise (fun a b => kless a b = true) → (∀ i x, l[i]? = some x → i < belowN l k → kless k x = false) ∧ (∀ i x, l[i]? = some x → belowN l k ≤ i → kless k x = true)
  | [], k, _ => ⟨fun i x h => by simp at h, fun i x h => by simp at h⟩
  | c :: l, k, h => by
    rw [List.pairwise_cons] at h
    have ih := below_split l k h.2
    have hb : belowN (c :: l) k = (if kless k c then 0 else 1) + belowN l k := by
      unfold belowN; rw [List.filter_cons]; cases kless k c <;> simp; omega
    cases hc : kless k c with
    | false =>
      rw [hc] at hb
      simp only [Bool.false_eq_true, if_false] at hb
      refine ⟨fun i x hx hi => ?_, fun i x hx hi => ?_⟩
      · cases i with
        | zero => simp at hx; subst hx; exact hc
        | succ i => exact ih.1 i x (by simpa using hx) (by omega)
      · cases i with
        | zero => omega
        | succ i => exact ih.2 i x (by simpa using hx) (by omega)
    | true =>
      have hz : belowN l k = 0 := by
        unfold belowN
        rw [List.length_eq_zero_iff, List.filter_eq_nil_iff]
        intro x hx
        have := kless_trans hc (h.1 x hx)
        simp [this]
      rw [hc] at hb
      simp only [if_true] at hb
      refine ⟨fun i x hx hi => by omega, fun i x hx hi => ?_⟩
      cases i with
      | zero => simp at hx; subst hx; exact hc
      | succ i => exact ih.2 i x (by simpa using hx) (by omega)
theorem cmpT_nil (a : ByteArray) (h : cmpT a ⟨#[]⟩ < 0) : False := by
  unfold cmpT at h
  cases ha : a.data.toList with
  | nil => rw [ha] at h; simp [Lib.compareBytes] at h
  | cons x r => rw [ha] at h; simp [Lib.compareBytes] at h
theorem cmpK_false {la : Int} {ta : ByteArray} {lb : Int} {tb : ByteArray} (h : ¬ cmpK la ta lb tb < 0) : lb ≤ la := by
  rw [cmpK_neg] at h; omega
/-- A word's length is one that its shard's words may have. -/
theorem len_in (l : List KeyL) (s : ByteArray) (hg : goodE l = 0) (hw : isWord s = true) : lenLo l (ofN l s) ≤ tLen s ∧ tLen s ≤ lenHi l (ofN l s) ∧ 0 ≤ ofN l s ∧ ofN l s ≤ l.length := by
  rw [goodE_iff] at hg
  have hsp := below_split l (tLen s, s) hg.2.2
  have hle := belowN_le l (tLen s, s)
  have hof : ofN l s = (belowN l (tLen s, s) : Int) := by unfold ofN; rw [if_pos hw]
  rw [hof]
  have hwd : 1 ≤ tLen s ∧ tLen s ≤ 12 := by
    unfold isWord at hw; simp at hw; exact hw
  generalize belowN l (tLen s, s) = m at *
  have hnot : ¬ ((m : Int) < 0 ∨ (l.length : Int) < (m : Int)) := by omega
  unfold lenLo lenHi
  rw [if_neg hnot, if_neg hnot]
  refine ⟨?_, ?_, by omega, by omega⟩
  · by_cases h0 : (0 : Int) < m
    · rw [if_pos h0]
      have hk := keyAt_some (l := l) (i := m - 1) (by omega)
      have := hsp.1 (m - 1) _ hk (by omega)
      unfold kless at this
      rw [decide_eq_false_iff_not] at this
      have h2 := cmpK_false this
      rw [Int.toNat_natCast]
      exact h2
    · rw [if_neg h0]; omega
  · by_cases h0 : (m : Int) < l.length
    · rw [if_pos h0]
      have hk := keyAt_some (l := l) (i := m) (by omega)
      have := hsp.2 m _ hk (Nat.le_refl _)
      unfold kless at this
      rw [decide_eq_true_eq, cmpK_neg] at this
      rw [Int.toNat_natCast]
      generalize keyAt l m = y at *
      obtain ⟨ly, ty⟩ := y
      by_cases ht : ty.toList = []
      · rw [if_pos ht]
        rcases this with h | ⟨_, h⟩
        · simp only at h ⊢; omega
        · exfalso
          have : ty = ⟨#[]⟩ := by
            rw [ByteArray.toList_eq] at ht
            exact ByteArray.ext (Array.toList_inj.1 (by simpa using ht))
          subst this
          exact cmpT_nil _ h
      · rw [if_neg ht]
        rcases this with h | ⟨h, _⟩ <;> simp only at h ⊢ <;> omega
    · rw [if_neg h0]; omega
theorem tless_trans {a b c : ByteArray} (h : tless a b = true) (k : tless b c = true) : tless a c = true := by
  unfold tless at *
  simp only [decide_eq_true_eq] at *
  exact cb_trans _ _ _ h k
theorem risesT_pw (l : List ByteArray) : risesT l (l.length - 1) = true → l.Pairwise (fun a b => tless a b = true) := by
  rw [List.pairwise_iff_getElem]
  unfold risesT
  rw [List.all_eq_true]
  have hk : ∀ i (h : i < l.length), tAt l i = l[i] := by intro i h; unfold tAt; simp [h]
  intro h
  have step : ∀ d i (hi : i < l.length) (hj : i + d + 1 < l.length), tless l[i] l[i + d + 1] = true := by
    intro d
    induction d with
    | zero =>
      intro i hi hj
      have := h i (by simp; omega)
      rw [hk i hi, hk (i + 1) hj] at this
      exact this
    | succ d ih =>
      intro i hi hj
      refine tless_trans (ih i hi (by omega)) ?_
      have := h (i + d + 1) (by simp; omega)
      rw [hk _ (by omega), hk _ (by omega)] at this
      exact this
  intro i j hi hj hij
  obtain ⟨d, rfl⟩ : ∃ d, j = i + d + 1 := ⟨j - i - 1, by omega⟩
  exact step d i hi hj
theorem goodT_of {l : List ByteArray} (h : goodT l = 0) : l.length ≤ 60 ∧ (∀ x ∈ l, isWord x = true) ∧ l.Pairwise (fun a b => tless a b = true) := by
  unfold goodT at h
  by_cases h5 : 60 < l.length
  · rw [if_pos h5] at h; simp at h
  · rw [if_neg h5] at h
    by_cases hb : (l.any fun s => !isWord s) = true
    · rw [if_pos hb] at h; simp at h
    · rw [if_neg hb] at h
      by_cases hr : risesT l (l.length - 1) = true
      · exact ⟨by omega, by simpa using hb, risesT_pw l hr⟩
      · rw [if_neg hr] at h; simp at h
theorem cb_refl : ∀ l : List UInt8, Lib.compareBytes l l = 0
  | [] => rfl
  | x :: l => by simp [Lib.compareBytes, cb_refl l]
theorem tless_irr (a : ByteArray) : tless a a = false := by
  unfold tless cmpT
  rw [decide_eq_false_iff_not, cb_refl]; omega
theorem tless_asym {a b : ByteArray} (h : tless a b = true) : tless b a = false := by
  cases hb : tless b a with
  | false => rfl
  | true => have := tless_trans h hb; rw [tless_irr] at this; cases this
/-- Two parts of a list in order, that have nothing in common, put together. -/
theorem merge_filter (p q : ByteArray → Bool) : ∀ l : List ByteArray, l.Pairwise (fun a b => tless a b = true) → (∀ x ∈ l, ¬ (p x = true ∧ q x = true)) → mergeL (l.filter p) (l.filter q) = l.filter fun x => p x || q x
  | [], _, _ => by simp [mergeL_nil]
  | x :: l, h, hd => by
    rw [List.pairwise_cons] at h
    have ih := merge_filter p q l h.2 (fun y hy => hd y (by simp [hy]))
    rw [List.filter_cons, List.filter_cons, List.filter_cons]
    cases hp : p x with
    | true =>
      cases hq : q x with
      | true => exact absurd ⟨hp, hq⟩ (hd x (by simp))
      | false =>
        simp only [Bool.false_eq_true, if_false, if_true, Bool.or_false]
        rw [← ih]
        cases hf : l.filter q with
        | nil => rw [mergeL_nil2, mergeL_nil2]
        | cons y r =>
          have hy : y ∈ l := (List.mem_filter.1 (hf ▸ List.mem_cons_self : y ∈ l.filter q)).1
          exact mergeL_lt (h.1 y hy)
    | false =>
      cases hq : q x with
      | true =>
        simp only [Bool.false_eq_true, if_false, if_true, Bool.false_or]
        rw [← ih]
        cases hf : l.filter p with
        | nil => rw [mergeL_nil, mergeL_nil]
        | cons y r =>
          have hy : y ∈ l := (List.mem_filter.1 (hf ▸ List.mem_cons_self : y ∈ l.filter p)).1
          have h1 := h.1 y hy
          exact mergeL_gt (tless_asym h1) (fun e => by rw [e, tless_irr] at h1; cases h1)
      | false => simpa using ih
end Go.Proofs.Ytnnkebhpmegkfaa
