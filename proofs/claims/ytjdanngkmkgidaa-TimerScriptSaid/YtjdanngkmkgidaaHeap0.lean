/- Plain law: a heap of pairs by numbers; what up and down do. No program in sight. -/
import Init.Data.List.Lemmas
namespace Go.Proofs.Ytjdanngkmkgidaa
set_option linter.unusedVariables false

abbrev One := Int × Int
def leO (a b : One) : Prop := a.1 < b.1 ∨ (a.1 = b.1 ∧ a.2 ≤ b.2)
def ltO (a b : One) : Bool := decide (a.1 < b.1 ∨ (a.1 = b.1 ∧ a.2 < b.2))
theorem ltO_false {a b : One} : ltO a b = false ↔ leO b a := by unfold ltO leO; rw [decide_eq_false_iff_not]; omega
theorem ltO_true {a b : One} : ltO a b = true ↔ ¬ leO b a := by unfold ltO leO; rw [decide_eq_true_eq]; omega
theorem leO_refl (a : One) : leO a a := by unfold leO; omega
theorem leO_trans {a b c : One} (h : leO a b) (k : leO b c) : leO a c := by unfold leO at *; omega
theorem leO_total (a b : One) : leO a b ∨ leO b a := by unfold leO; omega
theorem leO_of_lt {a b : One} (h : ltO a b = true) : leO a b := by rw [ltO_true] at h; rcases leO_total a b with k | k; exact k; exact absurd k h
theorem leO_anti {a b : One} (h : leO a b) (k : leO b a) : a = b := by unfold leO at *; apply Prod.ext <;> omega
def swapF (f : Nat → One) (i j : Nat) : Nat → One := fun k => if k = i then f j else if k = j then f i else f k
theorem swapF_i (f : Nat → One) (i j : Nat) : swapF f i j i = f j := by simp [swapF]
theorem swapF_j (f : Nat → One) (i j : Nat) : swapF f i j j = f i := by unfold swapF; split <;> simp_all
theorem swapF_o (f : Nat → One) (i j k : Nat) (h : k ≠ i) (h2 : k ≠ j) : swapF f i j k = f k := by simp [swapF, h, h2]
def childF (f : Nat → One) (i n : Nat) : Nat := if 2 * i + 2 < n ∧ ltO (f (2 * i + 2)) (f (2 * i + 1)) = true then 2 * i + 2 else 2 * i + 1
def downF : Nat → (Nat → One) → Nat → Nat → (Nat → One) × Nat
  | 0, f, i, _ => (f, i)
  | q + 1, f, i, n => if n ≤ 2 * i + 1 then (f, i) else if ltO (f (childF f i n)) (f i) = false then (f, i) else downF q (swapF f i (childF f i n)) (childF f i n) n
def upF : Nat → (Nat → One) → Nat → (Nat → One)
  | 0, f, _ => f
  | q + 1, f, j => if (j - 1) / 2 = j ∨ ltO (f j) (f ((j - 1) / 2)) = false then f else upF q (swapF f ((j - 1) / 2) j) ((j - 1) / 2)
def Heap (f : Nat → One) (n : Nat) : Prop := ∀ k, 1 ≤ k → k < n → leO (f ((k - 1) / 2)) (f k)
def DownInv (f : Nat → One) (i n : Nat) : Prop := (∀ k, 1 ≤ k → k < n → (k - 1) / 2 ≠ i → leO (f ((k - 1) / 2)) (f k)) ∧ (∀ k, 1 ≤ k → k < n → (k - 1) / 2 = i → 1 ≤ i → leO (f ((i - 1) / 2)) (f k))
def UpInv (f : Nat → One) (j n : Nat) : Prop := (∀ k, 1 ≤ k → k < n → k ≠ j → leO (f ((k - 1) / 2)) (f k)) ∧ (∀ k, 1 ≤ k → k < n → (k - 1) / 2 = j → 1 ≤ j → leO (f ((j - 1) / 2)) (f k))
def ExInv (f : Nat → One) (i n : Nat) : Prop := (∀ k, 1 ≤ k → k < n → k ≠ i → (k - 1) / 2 ≠ i → leO (f ((k - 1) / 2)) (f k)) ∧ (∀ k, 1 ≤ k → k < n → (k - 1) / 2 = i → 1 ≤ i → leO (f ((i - 1) / 2)) (f k))
theorem childF_cases (f : Nat → One) (i n : Nat) (h : 2 * i + 1 < n) : (childF f i n = 2 * i + 1 ∨ childF f i n = 2 * i + 2) ∧ childF f i n < n ∧ (childF f i n - 1) / 2 = i ∧ i < childF f i n ∧ (∀ k, 1 ≤ k → k < n → (k - 1) / 2 = i → leO (f (childF f i n)) (f k)) := by
  unfold childF
  split
  · rename_i hc
    refine ⟨.inr rfl, hc.1, by omega, by omega, fun k h1 h2 h3 => ?_⟩
    rcases (by omega : k = 2 * i + 1 ∨ k = 2 * i + 2) with rfl | rfl
    · exact leO_of_lt hc.2
    · exact leO_refl _
  · rename_i hc
    refine ⟨.inl rfl, h, by omega, by omega, fun k h1 h2 h3 => ?_⟩
    rcases (by omega : k = 2 * i + 1 ∨ k = 2 * i + 2) with rfl | rfl
    · exact leO_refl _
    · have : ltO (f (2 * i + 2)) (f (2 * i + 1)) = false := by
        cases hl : ltO (f (2 * i + 2)) (f (2 * i + 1)) with
        | false => rfl
        | true => exact absurd ⟨h2, hl⟩ hc
      exact ltO_false.1 this
/-- down makes a heap of what is one but for place i and what hangs below it -/
theorem down_heap : ∀ (q : Nat) (f : Nat → One) (i n : Nat), n ≤ i + q → DownInv f i n → Heap (downF q f i n).1 n
  | 0, f, i, n, hq, h => fun k h1 h2 => h.1 k h1 h2 (by omega)
  | q + 1, f, i, n, hq, h => by
    unfold downF
    split
    · rename_i hn
      exact fun k h1 h2 => h.1 k h1 h2 (by omega)
    · rename_i hn
      obtain ⟨c1, c2, c3, c4, c5⟩ := childF_cases f i n (by omega)
      generalize childF f i n = c at *
      split
      · rename_i hl
        have hle := ltO_false.1 hl
        intro k h1 h2
        by_cases hk : (k - 1) / 2 = i
        · rw [hk]; exact leO_trans hle (c5 k h1 h2 hk)
        · exact h.1 k h1 h2 hk
      · rename_i hl
        have hlt : leO (f c) (f i) := by
          cases hb : ltO (f c) (f i) with
          | false => exact absurd hb hl
          | true => exact leO_of_lt hb
        refine down_heap q _ c n (by omega) ⟨fun k h1 h2 hk => ?_, fun k h1 h2 hk hc1 => ?_⟩
        · by_cases k1 : (k - 1) / 2 = i
          · rw [k1, swapF_i]
            by_cases k2 : k = c
            · rw [k2, swapF_j]; exact hlt
            · rw [swapF_o _ _ _ _ (by omega) k2]; exact c5 k h1 h2 k1
          · by_cases k2 : k = i
            · subst k2
              rw [swapF_i, swapF_o _ _ _ _ (by omega) (by omega)]
              exact h.2 c (by omega) c2 c3 h1
            · have k3 : k ≠ c := by intro e; subst e; exact k1 c3
              rw [swapF_o _ _ _ _ k1 hk, swapF_o _ _ _ _ k2 k3]
              exact h.1 k h1 h2 k1
        · rw [c3, swapF_i, swapF_o _ _ _ _ (by omega) (by omega)]
          have := h.1 k h1 h2 (by omega)
          rw [hk] at this; exact this
theorem up_heap : ∀ (q : Nat) (f : Nat → One) (j n : Nat), j ≤ q → j < n → UpInv f j n → Heap (upF q f j) n
  | 0, f, j, n, hq, hj, h => fun k h1 h2 => h.1 k h1 h2 (by omega)
  | q + 1, f, j, n, hq, hj, h => by
    unfold upF
    split
    · rename_i hc
      intro k h1 h2
      by_cases hk : k = j
      · subst hk
        rcases hc with hc | hc
        · omega
        · exact ltO_false.1 hc
      · exact h.1 k h1 h2 hk
    · rename_i hc
      have hj1 : 1 ≤ j := by
        rcases Nat.eq_zero_or_pos j with h0 | h0
        · exfalso; apply hc; left; omega
        · exact h0
      have hlt : leO (f j) (f ((j - 1) / 2)) := by
        cases hb : ltO (f j) (f ((j - 1) / 2)) with
        | false => exact absurd (.inr hb) hc
        | true => exact leO_of_lt hb
      refine up_heap q _ ((j - 1) / 2) n (by omega) (by omega) ⟨fun k h1 h2 hk => ?_, fun k h1 h2 hk hp => ?_⟩
      · by_cases k1 : k = j
        · subst k1; rw [swapF_i, swapF_j]; exact hlt
        · rw [swapF_o _ _ _ _ hk k1]
          by_cases k2 : (k - 1) / 2 = (j - 1) / 2
          · rw [k2, swapF_i]
            have := h.1 k h1 h2 k1
            rw [k2] at this
            exact leO_trans hlt this
          · by_cases k3 : (k - 1) / 2 = j
            · rw [k3, swapF_j]; exact h.2 k h1 h2 k3 hj1
            · rw [swapF_o _ _ _ _ k2 k3]; exact h.1 k h1 h2 k1
      · have hpp : leO (f (((j - 1) / 2 - 1) / 2)) (f ((j - 1) / 2)) := h.1 ((j - 1) / 2) hp (by omega) (by omega)
        rw [swapF_o _ _ _ _ (by omega) (by omega)]
        by_cases k1 : k = j
        · subst k1; rw [swapF_j]; exact hpp
        · rw [swapF_o _ _ _ _ (by omega) k1]
          have := h.1 k h1 h2 k1
          rw [hk] at this
          exact leO_trans hpp this
/-- a change at place i: down first; where it does not move, up serves -/
theorem down_ex (q : Nat) (f : Nat → One) (i n : Nat) (hq : n ≤ i + q) (h : ExInv f i n) : ((downF q f i n).2 = i → (downF q f i n).1 = f ∧ UpInv f i n) ∧ ((downF q f i n).2 ≠ i → Heap (downF q f i n).1 n) ∧ i ≤ (downF q f i n).2 := by
  have hge : ∀ (q : Nat) (f : Nat → One) (i n : Nat), i ≤ (downF q f i n).2 := by
    intro q
    induction q with
    | zero => intro f i n; exact Nat.le_refl _
    | succ q ih =>
      intro f i n
      unfold downF
      split
      · exact Nat.le_refl _
      · rename_i hn
        split
        · exact Nat.le_refl _
        · obtain ⟨_, _, _, c4, _⟩ := childF_cases f i n (by omega)
          exact Nat.le_trans (Nat.le_of_lt c4) (ih _ _ _)
  refine ⟨?_, ?_, hge q f i n⟩
  · cases q with
    | zero => intro _; exact ⟨rfl, fun k h1 h2 hk => h.1 k h1 h2 hk (by omega), fun k h1 h2 hk hi => by omega⟩
    | succ q =>
      unfold downF
      split
      · rename_i hn
        intro _; exact ⟨rfl, fun k h1 h2 hk => h.1 k h1 h2 hk (by omega), h.2⟩
      · rename_i hn
        obtain ⟨c1, c2, c3, c4, c5⟩ := childF_cases f i n (by omega)
        generalize childF f i n = c at *
        split
        · rename_i hl
          have hle := ltO_false.1 hl
          intro _
          refine ⟨rfl, fun k h1 h2 hk => ?_, h.2⟩
          by_cases k1 : (k - 1) / 2 = i
          · rw [k1]; exact leO_trans hle (c5 k h1 h2 k1)
          · exact h.1 k h1 h2 hk k1
        · intro e
          have := hge q (swapF f i c) c n
          omega
  · cases q with
    | zero => intro hne; exact absurd rfl hne
    | succ q =>
      unfold downF
      split
      · intro hne; exact absurd rfl hne
      · rename_i hn
        obtain ⟨c1, c2, c3, c4, c5⟩ := childF_cases f i n (by omega)
        generalize childF f i n = c at *
        split
        · intro hne; exact absurd rfl hne
        · rename_i hl
          intro _
          have hlt : leO (f c) (f i) := by
            cases hb : ltO (f c) (f i) with
            | false => exact absurd hb hl
            | true => exact leO_of_lt hb
          refine down_heap q _ c n (by omega) ⟨fun k h1 h2 hk => ?_, fun k h1 h2 hk hc1 => ?_⟩
          · by_cases k1 : (k - 1) / 2 = i
            · rw [k1, swapF_i]
              by_cases k2 : k = c
              · rw [k2, swapF_j]; exact hlt
              · rw [swapF_o _ _ _ _ (by omega) k2]; exact c5 k h1 h2 k1
            · by_cases k2 : k = i
              · subst k2
                rw [swapF_i, swapF_o _ _ _ _ (by omega) (by omega)]
                exact h.2 c (by omega) c2 c3 h1
              · have k3 : k ≠ c := by intro e; subst e; exact k1 c3
                rw [swapF_o _ _ _ _ k1 hk, swapF_o _ _ _ _ k2 k3]
                exact h.1 k h1 h2 k2 k1
          · rw [c3, swapF_i, swapF_o _ _ _ _ (by omega) (by omega)]
            have := h.1 k h1 h2 (by omega) (by omega)
            rw [hk] at this; exact this
end Go.Proofs.Ytjdanngkmkgidaa
