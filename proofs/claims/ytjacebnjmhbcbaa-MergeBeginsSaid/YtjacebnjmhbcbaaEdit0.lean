/- Plain law: rows of distances. No program in sight. -/
import Derived.WalkKit
namespace Go.Proofs.Ytjacebnjmhbcbaa
set_option linter.unusedVariables false

/-- the least of three, as the program reckons it -/
def min3 (x y z : Int) : Int := if z < (if y < x then y else x) then z else (if y < x then y else x)
theorem min3_le (x y z : Int) : min3 x y z ≤ x ∧ min3 x y z ≤ y ∧ min3 x y z ≤ z ∧ (min3 x y z = x ∨ min3 x y z = y ∨ min3 x y z = z) := by
  unfold min3; split <;> split <;> omega
/-- the next row, place by place -/
def newAt (a : List Int) (r : Int) (k : Nat) (old : List Int) : Nat → Int
  | 0 => (k : Int) + 1
  | i + 1 => min3 (old.getD (i + 1) 0 + 1) (newAt a r k old i + 1) (old.getD i 0 + (if a.getD i 0 = r then 0 else 1))
def stepRow (a : List Int) (r : Int) (k : Nat) (old : List Int) : List Int := (List.range (a.length + 1)).map (newAt a r k old)
/-- the distances of the first k of b to the beginnings of a -/
def rowAt (a b : List Int) : Nat → List Int
  | 0 => (List.range (a.length + 1)).map fun (i : Nat) => (i : Int)
  | k + 1 => stepRow a (b.getD k 0) k (rowAt a b k)
def rowsL (a b : List Int) : List Int := rowAt a b b.length
def distL (a b : List Int) : Int := (rowsL a b).getD a.length 0
theorem rowAt_len (a b : List Int) (k : Nat) : (rowAt a b k).length = a.length + 1 := by
  cases k <;> simp [rowAt, stepRow]
theorem stepRow_get (a : List Int) (r : Int) (k : Nat) (old : List Int) (i : Nat) (h : i ≤ a.length) : (stepRow a r k old).getD i 0 = newAt a r k old i := by
  unfold stepRow
  rw [List.getD_eq_getElem?_getD, List.getElem?_map, List.getElem?_range (by omega)]; rfl
theorem rowAt_0 (a b : List Int) (i : Nat) (h : i ≤ a.length) : (rowAt a b 0).getD i 0 = (i : Int) := by
  unfold rowAt
  rw [List.getD_eq_getElem?_getD, List.getElem?_map, List.getElem?_range (by omega)]; rfl
/-- each is at least the difference of the lengths, and at most their sum -/
theorem rowAt_bd (a b : List Int) : ∀ k i, i ≤ a.length → (i : Int) - k ≤ (rowAt a b k).getD i 0 ∧ (k : Int) - i ≤ (rowAt a b k).getD i 0 ∧ (rowAt a b k).getD i 0 ≤ (i : Int) + k
  | 0, i, h => by rw [rowAt_0 a b i h]; omega
  | k + 1, i, h => by
    show (i : Int) - (k + 1 : Nat) ≤ (stepRow a (b.getD k 0) k (rowAt a b k)).getD i 0 ∧ _
    rw [rowAt, stepRow_get _ _ _ _ _ h]
    have ih := rowAt_bd a b k
    have hn : ∀ j, j ≤ a.length → (j : Int) - (k + 1 : Nat) ≤ newAt a (b.getD k 0) k (rowAt a b k) j ∧ ((k + 1 : Nat) : Int) - j ≤ newAt a (b.getD k 0) k (rowAt a b k) j ∧ newAt a (b.getD k 0) k (rowAt a b k) j ≤ (j : Int) + (k + 1 : Nat) := by
      intro j
      induction j with
      | zero => intro _; unfold newAt; omega
      | succ j ihj =>
        intro hj
        have h1 := ihj (by omega)
        have h2 := ih (j + 1) hj
        have h3 := ih j (by omega)
        rw [newAt]
        generalize newAt a (b.getD k 0) k (rowAt a b k) j = x at *
        generalize (rowAt a b k).getD (j + 1) 0 = y at *
        generalize (rowAt a b k).getD j 0 = z at *
        have hm := min3_le (y + 1) (x + 1) (z + (if a.getD j 0 = b.getD k 0 then 0 else 1))
        generalize min3 (y + 1) (x + 1) (z + (if a.getD j 0 = b.getD k 0 then 0 else 1)) = m at *
        have hc : (if a.getD j 0 = b.getD k 0 then (0 : Int) else 1) = 0 ∨ (if a.getD j 0 = b.getD k 0 then (0 : Int) else 1) = 1 := by split <;> simp
        omega
    exact hn i h
theorem distL_ge (a b : List Int) : (a.length : Int) - b.length ≤ distL a b ∧ (b.length : Int) - a.length ≤ distL a b := by
  have := rowAt_bd a b b.length a.length (Nat.le_refl _)
  unfold distL rowsL; omega
/-- a row that is made new ahead of place k -/
def mix (new old : List Int) (k : Nat) : List Int := new.take k ++ old.drop k
theorem mix_0 (new old : List Int) : mix new old 0 = old := by simp [mix]
theorem mix_len (new old : List Int) (k : Nat) (h : new.length = old.length) (hi : k ≤ old.length) : (mix new old k).length = old.length := by unfold mix; simp; omega
theorem mix_lo (new old : List Int) (k j : Nat) (h : new.length = old.length) (hi : k ≤ old.length) (hj : j < k) : (mix new old k)[j]? = some (new.getD j 0) := by
  unfold mix
  rw [List.getElem?_append_left (by simp; omega), List.getElem?_take, if_pos (by omega), List.getD_eq_getElem?_getD, List.getElem?_eq_getElem (by omega)]; rfl
theorem mix_hi (new old : List Int) (k j : Nat) (h : new.length = old.length) (hj : k ≤ j) (hl : j < old.length) : (mix new old k)[j]? = some (old.getD j 0) := by
  unfold mix
  rw [List.getElem?_append_right (by simp; omega), List.getElem?_drop, List.length_take, show k + (j - min k new.length) = j from by omega, List.getD_eq_getElem?_getD, List.getElem?_eq_getElem hl]; rfl
theorem mix_set (new old : List Int) (k : Nat) (h : new.length = old.length) (hi : k < old.length) : (mix new old k).set k (new.getD k 0) = mix new old (k + 1) := by
  apply List.ext_getElem?
  intro j
  rw [List.getElem?_set]
  by_cases e : k = j
  · subst e
    rw [if_pos rfl, if_pos (by rw [mix_len _ _ _ h (by omega)]; exact hi), mix_lo _ _ _ _ h hi (by omega)]
  · rw [if_neg e]
    by_cases hj : j < old.length
    · by_cases hji : j < k
      · rw [mix_lo _ _ _ _ h (by omega) hji, mix_lo _ _ _ _ h hi (by omega)]
      · rw [mix_hi _ _ _ _ h (by omega) hj, mix_hi _ _ _ _ h (by omega) hj]
    · rw [List.getElem?_eq_none (by rw [mix_len _ _ _ h (by omega)]; omega), List.getElem?_eq_none (by rw [mix_len _ _ _ h hi]; omega)]
theorem mix_all (new old : List Int) (k : Nat) (h : new.length = old.length) (hi : old.length ≤ k) : mix new old k = new := by
  unfold mix; rw [List.take_of_length_le (by omega), List.drop_of_length_le (by omega), List.append_nil]
end Go.Proofs.Ytjacebnjmhbcbaa
