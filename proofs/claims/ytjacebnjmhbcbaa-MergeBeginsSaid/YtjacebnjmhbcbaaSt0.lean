/- Plain law: sorting by swaps: what insertion, rotation and the merge in place come to. No program in sight. -/
import Init.Data.List.Lemmas
namespace Go.Proofs.Ytjacebnjmhbcbaa
set_option linter.unusedVariables false

section
variable {α : Type}
def swF (f : Nat → α) (i j : Nat) : Nat → α := fun k => if k = i then f j else if k = j then f i else f k
theorem swF_i (f : Nat → α) (i j : Nat) : swF f i j i = f j := by simp [swF]
theorem swF_j (f : Nat → α) (i j : Nat) : swF f i j j = f i := by unfold swF; split <;> simp_all
theorem swF_o (f : Nat → α) (i j k : Nat) (h : k ≠ i) (h2 : k ≠ j) : swF f i j k = f k := by simp [swF, h, h2]
def row (f : Nat → α) (n : Nat) : List α := (List.range n).map f
theorem row_len (f : Nat → α) (n : Nat) : (row f n).length = n := by simp [row]
theorem row_get (f : Nat → α) (n k : Nat) (h : k < n) : (row f n)[k]? = some (f k) := by unfold row; rw [List.getElem?_map, List.getElem?_range h]; rfl
theorem row_swap (f : Nat → α) (n i j : Nat) (hi : i < n) (hj : j < n) : (row (swF f i j) n).Perm (row f n) := by
  have h1 : i < (row f n).length := by rw [row_len]; exact hi
  have h2 : j < (row f n).length := by rw [row_len]; exact hj
  have h := List.set_set_perm (as := row f n) h1 h2
  have e : row (swF f i j) n = ((row f n).set i (row f n)[j]).set j (row f n)[i] := by
    apply List.ext_getElem?
    intro k
    have gi : (row f n)[i] = f i := by simp [row]
    have gj : (row f n)[j] = f j := by simp [row]
    rw [gi, gj, List.getElem?_set, List.getElem?_set, List.length_set, row_len]
    by_cases hk : k < n
    · rw [row_get _ _ _ hk, row_get _ _ _ hk]
      by_cases e1 : j = k
      · subst e1; rw [if_pos rfl, if_pos hj, swF_j]
      · rw [if_neg e1]
        by_cases e2 : i = k
        · subst e2; rw [if_pos rfl, if_pos hi, swF_i]
        · rw [if_neg e2, swF_o _ _ _ _ (fun e => e2 e.symm) (fun e => e1 e.symm)]
    · rw [if_neg (by omega), if_neg (by omega), List.getElem?_eq_none (by rw [row_len]; omega), List.getElem?_eq_none (by rw [row_len]; omega)]
  rw [e]; exact h
/-- only places from a to below b have turned, and they have among them what they had -/
structure Seg (a b : Nat) (D D' : Nat → α) : Prop where
  out : ∀ k, ¬ (a ≤ k ∧ k < b) → D' k = D k
  keep : ∀ p : α → Prop, (∀ k, a ≤ k → k < b → p (D k)) → ∀ k, a ≤ k → k < b → p (D' k)
  perm : ∀ n, b ≤ n → (row D' n).Perm (row D n)
theorem Seg.refl (a b : Nat) (D : Nat → α) : Seg a b D D := ⟨fun _ _ => rfl, fun _ h => h, fun _ _ => List.Perm.refl _⟩
theorem Seg.trans {a b : Nat} {D D' D'' : Nat → α} (h : Seg a b D D') (k : Seg a b D' D'') : Seg a b D D'' :=
  ⟨fun i hi => (k.out i hi).trans (h.out i hi), fun p hp => k.keep p (h.keep p hp), fun n hn => (k.perm n hn).trans (h.perm n hn)⟩
theorem Seg.mono {a b a' b' : Nat} {D D' : Nat → α} (h : Seg a b D D') (ha : a' ≤ a) (hb : b ≤ b') : Seg a' b' D D' := by
  refine ⟨fun k hk => h.out k (by omega), fun p hp k h1 h2 => ?_, fun n hn => h.perm n (by omega)⟩
  by_cases hin : a ≤ k ∧ k < b
  · exact h.keep p (fun k h1 h2 => hp k (by omega) (by omega)) k hin.1 hin.2
  · rw [h.out k hin]; exact hp k h1 h2
theorem Seg.swap {a b i j : Nat} (D : Nat → α) (h1 : a ≤ i) (h2 : i < b) (h3 : a ≤ j) (h4 : j < b) : Seg a b D (swF D i j) := by
  refine ⟨fun k hk => swF_o _ _ _ _ (by omega) (by omega), fun p hp k k1 k2 => ?_, fun n hn => row_swap D n i j (by omega) (by omega)⟩
  by_cases e1 : k = i
  · rw [e1, swF_i]; exact hp j h3 h4
  · by_cases e2 : k = j
    · rw [e2, swF_j]; exact hp i h1 h2
    · rw [swF_o _ _ _ _ e1 e2]; exact hp k k1 k2
/-- lt y x = false: x is not behind y -/
structure Ord (lt : α → α → Bool) : Prop where
  trans : ∀ x y z, lt y x = false → lt z y = false → lt z x = false
  asym : ∀ x y, lt x y = true → lt y x = false
theorem Ord.refl {lt : α → α → Bool} (h : Ord lt) (x : α) : lt x x = false := by
  cases hx : lt x x
  · rfl
  · have := h.asym x x hx; rw [hx] at this; exact this
def Srt (lt : α → α → Bool) (D : Nat → α) (a b : Nat) : Prop := ∀ i j, a ≤ i → i < j → j < b → lt (D j) (D i) = false
variable {lt : α → α → Bool}
theorem Srt.mono {D : Nat → α} {a b a' b' : Nat} (h : Srt lt D a b) (ha : a ≤ a') (hb : b' ≤ b) : Srt lt D a' b' := fun i j h1 h2 h3 => h i j (by omega) h2 (by omega)
theorem Srt.congr {D D' : Nat → α} {a b : Nat} (h : Srt lt D a b) (he : ∀ k, a ≤ k → k < b → D' k = D k) : Srt lt D' a b := fun i j h1 h2 h3 => by rw [he i h1 (by omega), he j (by omega) h3]; exact h i j h1 h2 h3
theorem Srt.one (lt : α → α → Bool) (D : Nat → α) {a b : Nat} (h : b ≤ a + 1) : Srt lt D a b := fun i j h1 h2 h3 => by omega
theorem Srt.shift {D D' : Nat → α} {a b c : Nat} (h : Srt lt D a b) (he : ∀ k, k < b - a → D' (c + k) = D (a + k)) : Srt lt D' c (c + (b - a)) := fun i j h1 h2 h3 => by
  have e1 := he (i - c) (by omega)
  have e2 := he (j - c) (by omega)
  rw [show c + (i - c) = i by omega] at e1
  rw [show c + (j - c) = j by omega] at e2
  rw [e1, e2]
  exact h _ _ (by omega) (by omega) (by omega)
/-- two rows in order, each of the first ahead of each of the second -/
theorem Srt.join {D : Nat → α} {a m b : Nat} (h : Srt lt D a m) (k : Srt lt D m b) (hx : ∀ i j, a ≤ i → i < m → m ≤ j → j < b → lt (D j) (D i) = false) : Srt lt D a b := fun i j h1 h2 h3 => by
  by_cases hj : j < m
  · exact h i j h1 h2 hj
  · by_cases hi : i < m
    · exact hx i j h1 hi (by omega) h3
    · exact k i j (by omega) h2 h3
/-! ### Insertion -/
def Ins (lt : α → α → Bool) (D : Nat → α) (a i j : Nat) : Prop := (∀ p q, a ≤ p → p < q → q ≤ i → p ≠ j → q ≠ j → lt (D q) (D p) = false) ∧ ∀ q, j < q → q ≤ i → lt (D q) (D j) = false
theorem Ins.start {D : Nat → α} {a i : Nat} (h : Srt lt D a i) : Ins lt D a i i := ⟨fun p q h1 h2 h3 h4 h5 => h p q h1 h2 (by omega), fun q h1 h2 => by omega⟩
theorem Ins.next {D : Nat → α} {a i j : Nat} (ho : Ord lt) (h : Ins lt D a i j) (hj : a < j) (hi : j ≤ i) (hl : lt (D j) (D (j - 1)) = true) : Ins lt (swF D j (j - 1)) a i (j - 1) := by
  refine ⟨fun p q h1 h2 h3 h4 h5 => ?_, fun q h1 h2 => ?_⟩
  · by_cases e1 : p = j
    · subst e1
      rw [swF_i, swF_o _ _ _ _ (by omega) h5]
      exact h.1 (p - 1) q (by omega) (by omega) h3 (by omega) (by omega)
    · rw [swF_o D j (j - 1) p e1 h4]
      by_cases e2 : q = j
      · subst e2
        rw [swF_i]
        exact h.1 p (q - 1) h1 (by omega) (by omega) e1 (by omega)
      · rw [swF_o _ _ _ _ e2 h5]
        exact h.1 p q h1 h2 h3 e1 e2
  · rw [swF_j]
    by_cases e : q = j
    · rw [e, swF_i]; exact ho.asym _ _ hl
    · rw [swF_o _ _ _ _ e (by omega)]; exact h.2 q (by omega) h2
theorem Ins.done {D : Nat → α} {a i j : Nat} (ho : Ord lt) (h : Ins lt D a i j) (hj : a ≤ j) (hi : j ≤ i) (hl : j = a ∨ lt (D j) (D (j - 1)) = false) : Srt lt D a (i + 1) := fun p q h1 h2 h3 => by
  by_cases e1 : p = j
  · subst e1; exact h.2 q h2 (by omega)
  · by_cases e2 : q = j
    · subst e2
      rcases hl with e | hl
      · omega
      · by_cases e3 : p = q - 1
        · rw [e3]; exact hl
        · exact ho.trans _ _ _ (h.1 p (q - 1) h1 (by omega) (by omega) e1 (by omega)) hl
    · exact h.1 p q h1 h2 (by omega) e1 e2
/-! ### Ranges swapped, a rotation -/
def swR (D : Nat → α) (a b n : Nat) : Nat → α := fun k => if a ≤ k ∧ k < a + n then D (b + (k - a)) else if b ≤ k ∧ k < b + n then D (a + (k - b)) else D k
theorem swR_zero (D : Nat → α) (a b : Nat) : swR D a b 0 = D := by
  funext k; unfold swR; rw [if_neg (by omega), if_neg (by omega)]
theorem swR_succ (D : Nat → α) (a b i n : Nat) (h : a + n ≤ b) (hi : i < n) : swF (swR D a b i) (a + i) (b + i) = swR D a b (i + 1) := by
  funext k
  unfold swF swR
  by_cases e1 : k = a + i
  · subst e1
    rw [if_pos rfl, if_neg (by omega), if_neg (by omega), if_pos (by omega)]; congr 1; omega
  · rw [if_neg e1]
    by_cases e2 : k = b + i
    · subst e2
      rw [if_pos rfl, if_neg (by omega), if_neg (by omega), if_neg (by omega), if_pos (by omega)]; congr 1; omega
    · rw [if_neg e2]
      by_cases e3 : a ≤ k ∧ k < a + i
      · rw [if_pos e3, if_pos (by omega)]
      · rw [if_neg e3]
        by_cases e4 : b ≤ k ∧ k < b + i
        · rw [if_pos e4, if_neg (by omega), if_pos (by omega)]
        · rw [if_neg e4, if_neg (by omega), if_neg (by omega)]
def rotF (D : Nat → α) (a m b : Nat) : Nat → α := fun k => if a ≤ k ∧ k < a + (b - m) then D (m + (k - a)) else if a + (b - m) ≤ k ∧ k < b then D (k - (b - m)) else D k
theorem rotF_lo (D : Nat → α) {a m b k : Nat} (h1 : a ≤ k) (h2 : k < a + (b - m)) : rotF D a m b k = D (m + (k - a)) := by unfold rotF; rw [if_pos ⟨h1, h2⟩]
theorem rotF_hi (D : Nat → α) {a m b k : Nat} (h1 : a + (b - m) ≤ k) (h2 : k < b) : rotF D a m b k = D (k - (b - m)) := by unfold rotF; rw [if_neg (by omega), if_pos ⟨h1, h2⟩]
theorem rotF_out (D : Nat → α) {a m b k : Nat} (ha : a ≤ m) (hb : m ≤ b) (h : ¬ (a ≤ k ∧ k < b)) : rotF D a m b k = D k := by unfold rotF; rw [if_neg (by omega), if_neg (by omega)]
theorem rotF_none1 (D : Nat → α) (m b : Nat) (h : m ≤ b) : rotF D m m b = D := by
  funext k; unfold rotF
  split
  · congr 1; omega
  · rw [if_neg (by omega)]
theorem rotF_none2 (D : Nat → α) (a m : Nat) : rotF D a m m = D := by
  funext k; unfold rotF
  rw [if_neg (by omega)]
  split
  · congr 1; omega
  · rfl
theorem swR_lo (D : Nat → α) {a b n k : Nat} (h1 : a ≤ k) (h2 : k < a + n) : swR D a b n k = D (b + (k - a)) := by unfold swR; rw [if_pos ⟨h1, h2⟩]
theorem swR_hi (D : Nat → α) {a b n k : Nat} (h0 : a + n ≤ b) (h1 : b ≤ k) (h2 : k < b + n) : swR D a b n k = D (a + (k - b)) := by unfold swR; rw [if_neg (by omega), if_pos ⟨h1, h2⟩]
theorem swR_out (D : Nat → α) {a b n k : Nat} (h1 : ¬ (a ≤ k ∧ k < a + n)) (h2 : ¬ (b ≤ k ∧ k < b + n)) : swR D a b n k = D k := by unfold swR; rw [if_neg h1, if_neg h2]
/-- the last step of a rotation: both parts have one length -/
theorem rot_last (D : Nat → α) (m i : Nat) (h : i ≤ m) : swR D (m - i) m i = rotF D (m - i) m (m + i) := by
  funext k
  by_cases e1 : m - i ≤ k ∧ k < m - i + i
  · rw [swR_lo D e1.1 e1.2, rotF_lo D e1.1 (by omega)]
  · by_cases e2 : m ≤ k ∧ k < m + i
    · rw [swR_hi D (by omega) e2.1 e2.2, rotF_hi D (by omega) e2.2]; congr 1; omega
    · rw [swR_out D e1 e2, rotF_out D (by omega) (by omega) (by omega)]
theorem rot_left (D : Nat → α) (m i j : Nat) (h : i ≤ m) (hij : j < i) : rotF (swR D (m - i) m j) (m - (i - j)) m (m + j) = rotF D (m - i) m (m + j) := by
  funext k
  by_cases e1 : m - i ≤ k ∧ k < m - i + j
  · rw [rotF_out _ (by omega) (by omega) (by omega), swR_lo D e1.1 e1.2, rotF_lo D e1.1 (by omega)]
  · by_cases e2 : m - (i - j) ≤ k ∧ k < m - (i - j) + j
    · rw [rotF_lo _ e2.1 (by omega), swR_hi D (by omega) (by omega) (by omega), rotF_hi D (by omega) (by omega)]; congr 1; omega
    · by_cases e3 : m - (i - j) + j ≤ k ∧ k < m + j
      · rw [rotF_hi _ (by omega) e3.2, swR_out D (by omega) (by omega), rotF_hi D (by omega) e3.2]
      · rw [rotF_out _ (by omega) (by omega) (by omega), swR_out D (by omega) (by omega), rotF_out D (by omega) (by omega) (by omega)]
theorem rot_right (D : Nat → α) (m i j : Nat) (h : i ≤ m) (hij : i < j) : rotF (swR D (m - i) (m + j - i) i) (m - i) m (m + (j - i)) = rotF D (m - i) m (m + j) := by
  funext k
  by_cases e0 : m + (j - i) ≤ k ∧ k < m + j
  · rw [rotF_out _ (by omega) (by omega) (by omega), swR_hi D (by omega) (by omega) (by omega), rotF_hi D (by omega) e0.2]; congr 1; omega
  · by_cases e1 : m - i ≤ k ∧ k < m - i + (j - i)
    · rw [rotF_lo _ e1.1 (by omega), rotF_lo D e1.1 (by omega)]
      rw [swR_out D (by omega) (by omega)]
    · by_cases e2 : m - i + (j - i) ≤ k ∧ k < m + (j - i)
      · rw [rotF_hi _ (by omega) e2.2]
        rw [swR_lo D (by omega) (by omega), rotF_lo D (by omega) (by omega)]; congr 1; omega
      · rw [rotF_out _ (by omega) (by omega) (by omega), swR_out D (by omega) (by omega), rotF_out D (by omega) (by omega) (by omega)]
/-! ### One element into the other row -/
def shU (D : Nat → α) (a k : Nat) : Nat → α := fun x => if a ≤ x ∧ x < k then D (x + 1) else if x = k then D a else D x
theorem shU_zero (D : Nat → α) (a : Nat) : shU D a a = D := by
  funext x; unfold shU
  rw [if_neg (by omega)]
  split
  · rename_i e; rw [e]
  · rfl
theorem shU_succ (D : Nat → α) (a k : Nat) (h : a ≤ k) : swF (shU D a k) k (k + 1) = shU D a (k + 1) := by
  funext x; unfold swF shU
  by_cases e1 : x = k
  · subst e1; rw [if_pos rfl, if_neg (by omega), if_neg (by omega), if_pos (by omega)]
  · rw [if_neg e1]
    by_cases e2 : x = k + 1
    · subst e2; rw [if_pos rfl, if_neg (by omega), if_pos rfl, if_neg (by omega), if_pos rfl]
    · rw [if_neg e2]
      by_cases e3 : a ≤ x ∧ x < k
      · rw [if_pos e3, if_pos (by omega)]
      · rw [if_neg e3, if_neg e1, if_neg (by omega), if_neg e2]
def shD (D : Nat → α) (m k : Nat) : Nat → α := fun x => if k < x ∧ x ≤ m then D (x - 1) else if x = k then D m else D x
theorem shD_zero (D : Nat → α) (m : Nat) : shD D m m = D := by
  funext x; unfold shD
  rw [if_neg (by omega)]
  split
  · rename_i e; rw [e]
  · rfl
theorem shD_succ (D : Nat → α) (m k : Nat) (h : k ≤ m) (h0 : 0 < k) : swF (shD D m k) k (k - 1) = shD D m (k - 1) := by
  funext x; unfold swF shD
  by_cases e1 : x = k
  · subst e1; rw [if_pos rfl, if_neg (by omega), if_neg (by omega), if_pos (by omega)]
  · rw [if_neg e1]
    by_cases e2 : x = k - 1
    · subst e2; rw [if_pos rfl, if_neg (by omega), if_pos rfl, if_neg (by omega), if_pos rfl]
    · rw [if_neg e2]
      by_cases e3 : k < x ∧ x ≤ m
      · rw [if_pos e3, if_pos (by omega)]
      · rw [if_neg e3, if_neg e1, if_neg (by omega), if_neg e2]
/-- the first element of [a, b) goes to its place in [a + 1, b) -/
theorem shU_srt {D : Nat → α} {a b i : Nat} (ho : Ord lt) (hs : Srt lt D (a + 1) b) (h1 : a + 1 ≤ i) (h2 : i ≤ b) (hlo : ∀ k, a + 1 ≤ k → k < i → lt (D k) (D a) = true) (hhi : ∀ k, i ≤ k → k < b → lt (D k) (D a) = false) : Srt lt (shU D a (i - 1)) a b := fun x y k1 k2 k3 => by
  unfold shU
  by_cases e1 : y < i - 1
  · rw [if_pos (by omega), if_pos (by omega)]; exact hs _ _ (by omega) (by omega) (by omega)
  · by_cases e2 : y = i - 1
    · rw [if_neg (by omega), if_pos e2, if_pos (by omega)]
      exact ho.asym _ _ (hlo _ (by omega) (by omega))
    · rw [if_neg (by omega), if_neg e2]
      by_cases e3 : x < i - 1
      · rw [if_pos (by omega)]; exact hs _ _ (by omega) (by omega) (by omega)
      · by_cases e4 : x = i - 1
        · rw [if_neg (by omega), if_pos e4]; exact hhi y (by omega) k3
        · rw [if_neg (by omega), if_neg e4]; exact hs _ _ (by omega) (by omega) (by omega)
/-- the last element of [a, m] goes to its place in [a, m) -/
theorem shD_srt {D : Nat → α} {a m i : Nat} (ho : Ord lt) (hs : Srt lt D a m) (h1 : a ≤ i) (h2 : i ≤ m) (hlo : ∀ k, a ≤ k → k < i → lt (D m) (D k) = false) (hhi : ∀ k, i ≤ k → k < m → lt (D m) (D k) = true) : Srt lt (shD D m i) a (m + 1) := fun x y k1 k2 k3 => by
  unfold shD
  by_cases e1 : i < x
  · rw [if_pos (by omega), if_pos (by omega)]; exact hs _ _ (by omega) (by omega) (by omega)
  · rw [if_neg (show ¬ (i < x ∧ x ≤ m) by omega)]
    by_cases e2 : x = i
    · rw [if_pos e2, if_pos (by omega)]; exact ho.asym _ _ (hhi _ (by omega) (by omega))
    · rw [if_neg e2]
      by_cases e3 : i < y
      · rw [if_pos (by omega)]
        exact hs _ _ (by omega) (by omega) (by omega)
      · rw [if_neg (by omega)]
        by_cases e4 : y = i
        · rw [if_pos e4]; exact hlo x (by omega) (by omega)
        · rw [if_neg e4]; exact hs _ _ (by omega) (by omega) (by omega)
/-! ### The merge in place -/
/-- what the binary search for the cut finds -/
structure CutOK (lt : α → α → Bool) (D : Nat → α) (a m b mid s : Nat) : Prop where
  lo : a ≤ s
  le : s ≤ m
  lm : s ≤ mid
  hi : mid + m ≤ b + s
  ahead : a < s → mid + m < b + s → lt (D (mid + m - s)) (D (s - 1)) = false
  behind : s < m → s < mid → lt (D (mid + m - s - 1)) (D s) = true
theorem cut_rot {D : Nat → α} {a m b mid s : Nat} (ho : Ord lt) (h1 : Srt lt D a m) (h2 : Srt lt D m b) (ham : a ≤ mid) (hmb : mid ≤ b) (hm : a ≤ m) (hb : m ≤ b) (h : CutOK lt D a m b mid s) :
    Srt lt (rotF D s m (mid + m - s)) a s ∧ Srt lt (rotF D s m (mid + m - s)) s mid ∧ Srt lt (rotF D s m (mid + m - s)) mid (mid + m - s) ∧ Srt lt (rotF D s m (mid + m - s)) (mid + m - s) b ∧
    ∀ i j, a ≤ i → i < mid → mid ≤ j → j < b → lt (rotF D s m (mid + m - s) j) (rotF D s m (mid + m - s) i) = false := by
  have l1 := h.lo
  have l2 := h.le
  have l3 := h.lm
  have l4 := h.hi
  have lo : ∀ k, s ≤ k → k < mid → rotF D s m (mid + m - s) k = D (m + (k - s)) := fun k k1 k2 => rotF_lo D k1 (by omega)
  have hi : ∀ k, mid ≤ k → k < mid + m - s → rotF D s m (mid + m - s) k = D (k - (mid - s)) := fun k k1 k2 => by
    rw [rotF_hi D (by omega) k2]; congr 1; omega
  have ou : ∀ k, k < s ∨ mid + m - s ≤ k → rotF D s m (mid + m - s) k = D k := fun k hk => rotF_out D l2 (by omega) (by omega)
  refine ⟨fun i j k1 k2 k3 => ?_, fun i j k1 k2 k3 => ?_, fun i j k1 k2 k3 => ?_, fun i j k1 k2 k3 => ?_, fun i j k1 k2 k3 k4 => ?_⟩
  · rw [ou i (by omega), ou j (by omega)]; exact h1 _ _ k1 k2 (by omega)
  · rw [lo i k1 (by omega), lo j (by omega) k3]; exact h2 _ _ (by omega) (by omega) (by omega)
  · rw [hi i k1 (by omega), hi j (by omega) k3]; exact h1 _ _ (by omega) (by omega) (by omega)
  · rw [ou i (by omega), ou j (by omega)]; exact h2 _ _ (by omega) k2 k3
  · by_cases ei : i < s
    · rw [ou i (.inl ei)]
      by_cases ej : j < mid + m - s
      · rw [hi j k3 ej]; exact h1 _ _ k1 (by omega) (by omega)
      · rw [ou j (by omega)]
        have hc := h.ahead (by omega) (by omega)
        have c1 : lt (D (s - 1)) (D i) = false := by
          by_cases e : i = s - 1
          · rw [e]; exact ho.refl _
          · exact h1 _ _ k1 (by omega) (by omega)
        have c2 : lt (D j) (D (mid + m - s)) = false := by
          by_cases e : j = mid + m - s
          · rw [e]; exact ho.refl _
          · exact h2 _ _ (by omega) (by omega) k4
        exact ho.trans _ _ _ (ho.trans _ _ _ c1 hc) c2
    · rw [lo i (by omega) k2]
      by_cases ej : j < mid + m - s
      · rw [hi j k3 ej]
        have hc := ho.asym _ _ (h.behind (by omega) (by omega))
        have c1 : lt (D (mid + m - s - 1)) (D (m + (i - s))) = false := by
          by_cases e : m + (i - s) = mid + m - s - 1
          · rw [e]; exact ho.refl _
          · exact h2 _ _ (by omega) (by omega) (by omega)
        have c2 : lt (D (j - (mid - s))) (D s) = false := by
          by_cases e : j - (mid - s) = s
          · rw [e]; exact ho.refl _
          · exact h1 _ _ (by omega) (by omega) (by omega)
        exact ho.trans _ _ _ (ho.trans _ _ _ c1 hc) c2
      · rw [ou j (by omega)]; exact h2 _ _ (by omega) (by omega) k4
/-- behind the cut both halves are put in order: the whole is -/
theorem cut_end {D1 D2 D3 : Nat → α} {a mid b : Nat} (ham : a ≤ mid) (hmb : mid ≤ b) (hx : ∀ i j, a ≤ i → i < mid → mid ≤ j → j < b → lt (D1 j) (D1 i) = false) (s2 : Seg a mid D1 D2) (h2 : Srt lt D2 a mid) (s3 : Seg mid b D2 D3) (h3 : Srt lt D3 mid b) : Srt lt D3 a b := by
  have hD : ∀ k, a ≤ k → k < mid → D3 k = D2 k := fun k _ k2 => s3.out k (by omega)
  refine Srt.join (h2.congr hD) h3 fun i j k1 k2 k3 k4 => ?_
  rw [hD i k1 k2]
  have e1 : ∀ j, mid ≤ j → j < b → lt (D1 j) (D2 i) = false := fun j j1 j2 => s2.keep (fun x => lt (D1 j) x = false) (fun k q1 q2 => hx k j q1 q2 j1 j2) i k1 k2
  have e2 : ∀ j, mid ≤ j → j < b → lt (D2 j) (D2 i) = false := fun j j1 j2 => by rw [s2.out j (by omega)]; exact e1 j j1 j2
  exact s3.keep (fun x => lt x (D2 i) = false) (fun k q1 q2 => e2 k q1 q2) j k3 k4
/-! ### Blocks -/
inductive Chunks (lt : α → α → Bool) (D : Nat → α) (s n : Nat) : Nat → Prop
  | done {a : Nat} : n ≤ a → Chunks lt D s n a
  | cons {a : Nat} : a < n → Srt lt D a (min (a + s) n) → Chunks lt D s n (a + s) → Chunks lt D s n a
inductive Upto (lt : α → α → Bool) (D : Nat → α) (s : Nat) : Nat → Prop
  | zero : Upto lt D s 0
  | snoc {a : Nat} : Upto lt D s a → Srt lt D a (a + s) → Upto lt D s (a + s)
theorem Chunks.congr {D D' : Nat → α} {s n a lo : Nat} (h : Chunks lt D s n a) (hl : lo ≤ a) (he : ∀ k, lo ≤ k → D' k = D k) : Chunks lt D' s n a := by
  induction h with
  | done h => exact .done h
  | cons h1 h2 _ ih => exact .cons h1 (h2.congr fun k k1 _ => he k (by omega)) (ih (by omega))
theorem Upto.congr {D D' : Nat → α} {s a : Nat} (h : Upto lt D s a) (he : ∀ k, k < a → D' k = D k) : Upto lt D' s a := by
  induction h with
  | zero => exact .zero
  | snoc h1 h2 ih => exact .snoc (ih fun k hk => he k (by omega)) (h2.congr fun k _ k2 => he k k2)
theorem Upto.all {D : Nat → α} {s n a : Nat} (h : Upto lt D s a) (ha : a ≤ n) (k : Chunks lt D s n a) (hs : 0 < s) : Chunks lt D s n 0 := by
  induction h with
  | zero => exact k
  | @snoc c h1 h2 ih =>
    refine ih (by omega) (.cons (by omega) ?_ k)
    rw [show min (c + s) n = c + s by omega]; exact h2
theorem Chunks.whole {D : Nat → α} {s n : Nat} (h : Chunks lt D s n 0) (hs : n ≤ s) : Srt lt D 0 n := by
  cases h with
  | done h => exact Srt.one lt D (by omega)
  | cons h1 h2 _ => rwa [show min (0 + s) n = n by omega] at h2
theorem Chunks.head {D : Nat → α} {s n a : Nat} (h : Chunks lt D s n a) (ha : a < n) : Srt lt D a (min (a + s) n) ∧ Chunks lt D s n (a + s) := by
  cases h with
  | done h => omega
  | cons _ h2 h3 => exact ⟨h2, h3⟩
end
end Go.Proofs.Ytjacebnjmhbcbaa
