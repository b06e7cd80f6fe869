/- Plain law: distances up to a bound, in a band. No program in sight. -/
import Derived.Test.YtjacebnjmhbcbaaEdit0
namespace Go.Proofs.Ytjacebnjmhbcbaa
set_option linter.unusedVariables false

/-- the distance of the first i of a and the first j of b -/
def Dm (a b : List Int) (i j : Nat) : Int := (rowAt a b j).getD i 0
theorem Dm_i0 (a b : List Int) {i : Nat} (h : i ≤ a.length) : Dm a b i 0 = (i : Int) := rowAt_0 a b i h
theorem Dm_0j (a b : List Int) (j : Nat) : Dm a b 0 j = (j : Int) := by
  cases j with
  | zero => exact rowAt_0 a b 0 (Nat.zero_le _)
  | succ j =>
    unfold Dm
    rw [rowAt, stepRow_get _ _ _ _ _ (Nat.zero_le _), newAt]; omega
theorem Dm_ss (a b : List Int) {i : Nat} (j : Nat) (h : i < a.length) : Dm a b (i + 1) (j + 1) = min3 (Dm a b (i + 1) j + 1) (Dm a b i (j + 1) + 1) (Dm a b i j + (if a.getD i 0 = b.getD j 0 then 0 else 1)) := by
  unfold Dm
  rw [rowAt, stepRow_get _ _ _ _ _ (show i + 1 ≤ a.length from h), stepRow_get _ _ _ _ _ (show i ≤ a.length by omega), newAt]
theorem Dm_bd (a b : List Int) {i : Nat} (j : Nat) (h : i ≤ a.length) : (i : Int) - j ≤ Dm a b i j ∧ (j : Int) - i ≤ Dm a b i j ∧ Dm a b i j ≤ (i : Int) + j := rowAt_bd a b j i h
theorem distL_Dm (a b : List Int) : distL a b = Dm a b a.length b.length := rfl
/-- the distance is the same from the other end -/
theorem Dm_sym (a b : List Int) : ∀ i j, i ≤ a.length → j ≤ b.length → Dm a b i j = Dm b a j i
  | 0, j, hi, hj => by rw [Dm_0j, Dm_i0 _ _ hj]
  | i + 1, 0, hi, hj => by rw [Dm_0j, Dm_i0 _ _ hi]
  | i + 1, j + 1, hi, hj => by
    rw [Dm_ss a b j (by omega), Dm_ss b a i (by omega), Dm_sym a b (i + 1) j hi (by omega), Dm_sym a b i (j + 1) (by omega) hj, Dm_sym a b i j (by omega) (by omega)]
    have e : (if a.getD i 0 = b.getD j 0 then (0 : Int) else 1) = (if b.getD j 0 = a.getD i 0 then 0 else 1) := by
      by_cases h : a.getD i 0 = b.getD j 0
      · rw [if_pos h, if_pos h.symm]
      · rw [if_neg h, if_neg fun e => h e.symm]
    rw [e]
    generalize Dm b a j (i + 1) + 1 = x
    generalize Dm b a (j + 1) i + 1 = y
    generalize Dm b a j i + (if b.getD j 0 = a.getD i 0 then (0 : Int) else 1) = z
    have h1 := min3_le x y z
    have h2 := min3_le y x z
    omega
theorem distL_sym (a b : List Int) : distL a b = distL b a := Dm_sym a b a.length b.length (Nat.le_refl _) (Nat.le_refl _)
def capI (far x : Int) : Int := if far < x then far else x
theorem capI_far {far x : Int} (h : far ≤ x) : capI far x = far := by unfold capI; split <;> omega
theorem capI_of {far x : Int} (h : x ≤ far) : capI far x = x := by unfold capI; split <;> omega
theorem capI_le (far x : Int) : capI far x ≤ far ∧ capI far x ≤ x := by unfold capI; split <;> omega
/-- the step, with what is capped -/
theorem cap_step (far u v t : Int) (c : Int) (hc : c = 0 ∨ c = 1) :
    (if far < (if capI far t + c < (if capI far v < capI far u then capI far v + 1 else capI far u + 1) then capI far t + c else if capI far v < capI far u then capI far v + 1 else capI far u + 1) then far else if capI far t + c < (if capI far v < capI far u then capI far v + 1 else capI far u + 1) then capI far t + c else if capI far v < capI far u then capI far v + 1 else capI far u + 1) = capI far (min3 (v + 1) (u + 1) (t + c)) := by
  have h1 := min3_le (v + 1) (u + 1) (t + c)
  generalize min3 (v + 1) (u + 1) (t + c) = m at *
  have hu : capI far u = u ∧ u ≤ far ∨ capI far u = far ∧ far < u := by unfold capI; split <;> omega
  have hv : capI far v = v ∧ v ≤ far ∨ capI far v = far ∧ far < v := by unfold capI; split <;> omega
  have ht : capI far t = t ∧ t ≤ far ∨ capI far t = far ∧ far < t := by unfold capI; split <;> omega
  have hm : capI far m = m ∧ m ≤ far ∨ capI far m = far ∧ far < m := by unfold capI; split <;> omega
  generalize capI far u = cu at *
  generalize capI far v = cv at *
  generalize capI far t = ct at *
  generalize capI far m = cm at *
  repeat' split
  all_goals omega
def setR (R : Nat → Int) (j : Nat) (x : Int) : Nat → Int := fun q => if q = j then x else R q
theorem setR_eq (R : Nat → Int) (j : Nat) (x : Int) : setR R j x j = x := by simp [setR]
theorem setR_ne (R : Nat → Int) {j q : Nat} (x : Int) (h : q ≠ j) : setR R j x q = R q := by simp [setR, h]
/-- a row that is right in the band of i -/
def BdOK (a b : List Int) (k i : Nat) (R : Nat → Int) : Prop := ∀ j, j ≤ b.length → i ≤ j + k + 1 → j ≤ i + k + 1 → R j = capI ((k : Int) + 1) (Dm a b i j)
/-- a row under way: right for i + 1 ahead of place j, for i from there on -/
def MdOK (a b : List Int) (k i j : Nat) (R : Nat → Int) : Prop := (∀ q, q < j → q ≤ b.length → i ≤ q + k → R q = capI ((k : Int) + 1) (Dm a b (i + 1) q)) ∧ ∀ q, j ≤ q → q ≤ b.length → q ≤ i + k + 1 → R q = capI ((k : Int) + 1) (Dm a b i q)
theorem BdOK.zero {a b : List Int} {k : Nat} {R : Nat → Int} (h : ∀ j, j ≤ b.length → R j = capI ((k : Int) + 1) (j : Int)) : BdOK a b k 0 R := fun j hj _ _ => by rw [h j hj, Dm_0j]
theorem MdOK.start {a b : List Int} {k i f : Nat} {R : Nat → Int} (h : BdOK a b k i R) (hi : i < a.length) (hf1 : 1 ≤ f) (hf2 : i + 1 ≤ f + k) (hf3 : f = 1 ∨ f + k = i + 1) : MdOK a b k i f (if f = 1 then setR (setR R 0 ((k : Int) + 1)) 0 (capI ((k : Int) + 1) ((i : Int) + 1)) else setR R (f - 1) ((k : Int) + 1)) := by
  refine ⟨fun q h1 h2 h3 => ?_, fun q h1 h2 h3 => ?_⟩
  · have hq : q = f - 1 := by omega
    subst hq
    by_cases e : f = 1
    · subst e
      rw [if_pos rfl, setR_eq, Dm_i0 _ _ hi]; rfl
    · rw [if_neg e, setR_eq]
      have := Dm_bd a b (f - 1) (show i + 1 ≤ a.length from hi)
      rw [capI_far (by omega)]
  · by_cases e : f = 1
    · rw [if_pos e, setR_ne _ _ (by omega), setR_ne _ _ (by omega)]; exact h q h2 (by omega) h3
    · rw [if_neg e, setR_ne _ _ (by omega)]; exact h q h2 (by omega) h3
theorem MdOK.next {a b : List Int} {k i j : Nat} {R : Nat → Int} (h : MdOK a b k i (j + 1) R) (hi : i < a.length) (hj : j < b.length) (h1 : i ≤ j + k) : MdOK a b k i (j + 1 + 1) (setR R (j + 1) (capI ((k : Int) + 1) (Dm a b (i + 1) (j + 1)))) := by
  refine ⟨fun q h1 h2 h3 => ?_, fun q h1 h2 h3 => ?_⟩
  · by_cases e : q = j + 1
    · rw [e, setR_eq]
    · rw [setR_ne _ _ e]; exact h.1 q (by omega) h2 h3
  · rw [setR_ne _ _ (by omega)]; exact h.2 q (by omega) h2 h3
theorem MdOK.done {a b : List Int} {k i t f : Nat} {R : Nat → Int} (hf : i + 1 ≤ f + k) (h : MdOK a b k i (t + 1) R) (hi : i < a.length) (ht : t = b.length ∨ t = i + 1 + k ∧ t < b.length) : BdOK a b k (i + 1) (if t < b.length then setR R (t + 1) ((k : Int) + 1) else R) := fun j h1 h2 h3 => by
  by_cases e : t < b.length
  · rw [if_pos e]
    by_cases e2 : j = t + 1
    · rw [e2, setR_eq]
      have := Dm_bd a b (t + 1) (show i + 1 ≤ a.length from hi)
      rw [capI_far (by omega)]
    · rw [setR_ne _ _ e2]; exact h.1 j (by omega) h1 (by omega)
  · rw [if_neg e]; exact h.1 j (by omega) h1 (by omega)
/-- near: the distance where it is not above k -/
def nearL (a b : List Int) (k : Int) : Int × Bool := if distL a b ≤ k then (distL a b, true) else (0, false)
theorem nearL_no1 {a b : List Int} {k : Int} (h : k < (a.length : Int) - b.length) : nearL a b k = (0, false) := by
  unfold nearL; have := distL_ge a b; rw [if_neg (by omega)]
theorem nearL_no2 {a b : List Int} {k : Int} (h : k < (b.length : Int) - a.length) : nearL a b k = (0, false) := by
  unfold nearL; have := distL_ge a b; rw [if_neg (by omega)]
theorem nearL_no3 {a b : List Int} {k : Int} (h : k < 0) : nearL a b k = (0, false) := by
  unfold nearL; have := distL_ge a b; rw [if_neg (by omega)]
theorem nearL_cap {a b : List Int} {k : Int} {K : Nat} (h : (K : Int) = (if (a.length : Int) + b.length < k then (a.length : Int) + b.length else k)) {x : Int} (hx : x = capI ((K : Int) + 1) (distL a b)) : nearL a b k = if (K : Int) < x then (0, false) else (x, true) := by
  have h1 := Dm_bd a b b.length (Nat.le_refl a.length)
  rw [← distL_Dm] at h1
  unfold nearL
  by_cases hd : distL a b ≤ k
  · rw [if_pos hd]
    have : distL a b ≤ (K : Int) := by rw [h]; split <;> omega
    rw [capI_of (by omega)] at hx
    rw [if_neg (by omega), hx]
  · rw [if_neg hd]
    have : (K : Int) < distL a b := by rw [h]; split <;> omega
    rw [capI_far (by omega)] at hx
    rw [if_pos (by omega)]
end Go.Proofs.Ytjacebnjmhbcbaa
