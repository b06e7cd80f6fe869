/- The plain mathematics of a burst: up to four bytes that lie together turned are seen by the check sum. -/
import Derived.Test.YtjhkdbcfkaaffaaSum2
namespace Go.Proofs.Ytjhkdbcfkaaffaa
open Go.RowKit
set_option linter.unusedVariables false

set_option maxRecDepth 100000 in
theorem xor4 (a b c d : Nat) : (a ^^^ b) ^^^ (c ^^^ d) = (a ^^^ c) ^^^ (b ^^^ d) := by
  apply Nat.eq_of_testBit_eq; intro i; simp only [Nat.testBit_xor]
  cases a.testBit i <;> cases b.testBit i <;> cases c.testBit i <;> cases d.testBit i <;> rfl
set_option maxRecDepth 100000 in
theorem step_xor (a b : Nat) : step (a ^^^ b) = step a ^^^ step b := by
  unfold step
  rw [xor_half]
  have h := xor_mod2 a b
  by_cases ha : a % 2 = 1 <;> by_cases hb : b % 2 = 1
  · rw [if_neg (fun e => (h.1 e) (by omega)), if_pos ha, if_pos hb]
    rw [xor4, Nat.xor_self, Nat.xor_zero]
  · rw [if_pos (h.2 (by omega)), if_pos ha, if_neg hb]
    rw [Nat.xor_assoc, Nat.xor_comm (b / 2), ← Nat.xor_assoc]
  · rw [if_pos (h.2 (by omega)), if_neg ha, if_pos hb, Nat.xor_assoc]
  · rw [if_neg (fun e => (h.1 e) (by omega)), if_neg ha, if_neg hb]
set_option maxRecDepth 100000 in
theorem steps_xor (k a b : Nat) : steps k (a ^^^ b) = steps k a ^^^ steps k b := by
  induction k with
  | zero => rfl
  | succ k ih => simp only [steps, ih, step_xor]
set_option maxRecDepth 100000 in
theorem step_zero {c : Nat} (hc : c < 4294967296) (h : step c = 0) : c = 0 := by
  unfold step at h
  split at h
  · have : c / 2 = poly := by
      have h1 : c / 2 ^^^ poly ^^^ poly = 0 ^^^ poly := by rw [h]
      rwa [Nat.xor_assoc, Nat.xor_self, Nat.xor_zero, Nat.zero_xor] at h1
    unfold poly at this; omega
  · omega
set_option maxRecDepth 100000 in
theorem steps_zero (k : Nat) {c : Nat} (hc : c < 4294967296) (h : steps k c = 0) : c = 0 := by
  induction k with
  | zero => exact h
  | succ k ih => exact ih (step_zero (steps_lt k hc) h)
set_option maxRecDepth 100000 in
theorem steps_add (j k c : Nat) : steps j (steps k c) = steps (j + k) c := by
  induction j with
  | zero => simp [steps]
  | succ j ih => rw [Nat.succ_add]; simp only [steps, ih]
set_option maxRecDepth 100000 in
theorem steps_shift (k y : Nat) : steps k (y * 2 ^ k) = y := by
  induction k generalizing y with
  | zero => simp [steps]
  | succ k ih =>
    have e : y * 2 ^ (k + 1) = (y * 2) * 2 ^ k := by rw [Nat.pow_succ, Nat.mul_comm (2 ^ k) 2, Nat.mul_assoc]
    simp only [steps]
    rw [e, ih]
    unfold step
    rw [if_neg (by omega)]; omega
set_option maxRecDepth 100000 in
/-- a difference of states and of bytes -/
theorem turnN_xor (c d b t : Nat) : turnN (c ^^^ d) (b ^^^ t) = turnN c b ^^^ steps 8 (d ^^^ t) := by
  unfold turnN; rw [xor4, steps_xor]
set_option maxRecDepth 100000 in
/-- a word's low byte and the rest -/
theorem split8 (x : Nat) : x = (x % 256) ^^^ (x / 256 * 2 ^ 8) := by
  apply Nat.eq_of_testBit_eq
  intro i
  have h1 : x % 256 = x % 2 ^ 8 := rfl
  have h2 : x / 256 = x / 2 ^ 8 := rfl
  rw [Nat.testBit_xor, h1, h2, Nat.testBit_mod_two_pow, Nat.testBit_mul_two_pow, Nat.testBit_div_two_pow]
  by_cases hi : i < 8
  · simp [hi, show ¬ 8 ≤ i by omega]
  · simp [hi, show 8 ≤ i by omega, show i - 8 + 8 = i by omega]
set_option maxRecDepth 100000 in
theorem burst (t : Nat) (ht : t < 4294967296) :
    steps 8 (steps 8 (steps 8 (steps 8 (t % 256) ^^^ (t / 256 % 256)) ^^^ (t / 256 / 256 % 256)) ^^^ (t / 256 / 256 / 256 % 256)) = steps 32 t := by
  have one : ∀ x, steps 8 (x % 256) ^^^ (x / 256) = steps 8 x := by
    intro x
    have e := steps_shift 8 (x / 256)
    rw [← e, ← steps_xor, ← split8]
  have hy : t / 256 / 256 / 256 % 256 = t / 256 / 256 / 256 := by omega
  rw [hy]
  have two : ∀ d x, steps 8 (d ^^^ x % 256) ^^^ (x / 256) = steps 8 (d ^^^ x) := by
    intro d x
    rw [steps_xor, Nat.xor_assoc, one, ← steps_xor]
  rw [two, two, one, steps_add, steps_add, steps_add]

set_option maxRecDepth 100000 in
theorem addL_diff (s : List Nat) : ∀ c d, d < 4294967296 → d ≠ 0 → ∃ d', d' ≠ 0 ∧ d' < 4294967296 ∧ addL (c ^^^ d) s = addL c s ^^^ d' := by
  induction s with
  | nil => intro c d h1 h2; exact ⟨d, h2, h1, rfl⟩
  | cons b r ih =>
    intro c d h1 h2
    have e : turnN (c ^^^ d) b = turnN c b ^^^ steps 8 d := by
      have := turnN_xor c d b 0; simpa using this
    show ∃ d', _ ∧ _ ∧ addL (turnN (c ^^^ d) b) r = addL (turnN c b) r ^^^ d'
    rw [e]
    exact ih _ _ (steps_lt 8 h1) (fun h => h2 (steps_zero 8 h1 h))
set_option maxRecDepth 100000 in
theorem xor_ne (a d : Nat) (h : d ≠ 0) : a ^^^ d ≠ a := by
  intro e
  have : a ^^^ (a ^^^ d) = a ^^^ a := by rw [e]
  rw [← Nat.xor_assoc, Nat.xor_self, Nat.zero_xor] at this
  exact h this
set_option maxRecDepth 100000 in
theorem addL_burst (c t b0 b1 b2 b3 : Nat) : addL c [b0 ^^^ t % 256, b1 ^^^ t / 256 % 256, b2 ^^^ t / 256 / 256 % 256, b3 ^^^ t / 256 / 256 / 256 % 256] =
    addL c [b0, b1, b2, b3] ^^^ steps 8 (steps 8 (steps 8 (steps 8 (t % 256) ^^^ (t / 256 % 256)) ^^^ (t / 256 / 256 % 256)) ^^^ (t / 256 / 256 / 256 % 256)) := by
  have h0 := turnN_xor c 0 b0 (t % 256)
  rw [Nat.xor_zero, Nat.zero_xor] at h0
  simp only [addL, List.foldl]
  rw [h0, turnN_xor, turnN_xor, turnN_xor]
set_option maxRecDepth 100000 in
/-- the law -/
theorem turned_ne (p s : List Nat) (t b0 b1 b2 b3 : Nat) (ht : t < 4294967296) (h0 : t ≠ 0) (hb : ∀ x ∈ p ++ [b0, b1, b2, b3] ++ s, x < 256) :
    addN 0 (p ++ [b0 ^^^ t % 256, b1 ^^^ t / 256 % 256, b2 ^^^ t / 256 / 256 % 256, b3 ^^^ t / 256 / 256 / 256 % 256] ++ s) ≠ addN 0 (p ++ [b0, b1, b2, b3] ++ s) := by
  unfold addN
  rw [addL_append, addL_append, addL_append, addL_append, addL_burst, burst t ht]
  have hd : steps 32 t ≠ 0 := fun h => h0 (steps_zero 32 ht h)
  obtain ⟨d', h1, h2, h3⟩ := addL_diff s (addL (addL (inv 0) p) [b0, b1, b2, b3]) _ (steps_lt 32 ht) hd
  rw [h3]
  have hl : addL (addL (addL (inv 0) p) [b0, b1, b2, b3]) s < 4294967296 := by
    rw [← addL_append, ← addL_append]; exact addL_lt _ (inv_lt 0) (by rw [← List.append_assoc]; exact hb)
  have hx := xor_ne (addL (addL (addL (inv 0) p) [b0, b1, b2, b3]) s) d' h1
  have hl2 := xor_lt hl h2
  intro e
  apply hx
  have e1 := congrArg inv e
  rwa [inv_inv hl2, inv_inv hl] at e1

/-- the first 'i' of four bytes from 'k' on turned by a word's bytes -/
def fl (l : List Nat) (k t : Nat) : Nat → List Nat
  | 0 => l
  | i + 1 => (fl l k t i).set (k + i) ((fl l k t i)[k + i]?.getD 0 ^^^ t / 2 ^ (8 * i) % 256)
set_option maxRecDepth 100000 in
theorem fl_length (l : List Nat) (k t i : Nat) : (fl l k t i).length = l.length := by
  induction i with
  | zero => rfl
  | succ i ih => simp [fl, ih]
set_option maxRecDepth 100000 in
theorem fl_lt (l : List Nat) (k t i : Nat) (hl : ∀ x ∈ l, x < 256) : ∀ x ∈ fl l k t i, x < 256 := by
  induction i with
  | zero => exact hl
  | succ i ih =>
    intro x hx
    rcases List.mem_or_eq_of_mem_set hx with h | h
    · exact ih x h
    · subst h
      refine Nat.xor_lt_two_pow (n := 8) ?_ (by omega)
      by_cases hk : k + i < (fl l k t i).length
      · rw [List.getElem?_eq_getElem hk]; exact ih _ (by simp)
      · rw [List.getElem?_eq_none (by omega)]; simp
set_option maxRecDepth 100000 in
theorem fl_four (p s : List Nat) (t b0 b1 b2 b3 : Nat) : fl (p ++ [b0, b1, b2, b3] ++ s) p.length t 4 =
    p ++ [b0 ^^^ t % 256, b1 ^^^ t / 256 % 256, b2 ^^^ t / 256 / 256 % 256, b3 ^^^ t / 256 / 256 / 256 % 256] ++ s := by
  simp only [fl, List.append_assoc, List.cons_append, List.nil_append]
  simp [List.set_append_right, Nat.div_div_eq_div_mul]
set_option maxRecDepth 100000 in
theorem four_at (l : List Nat) (k : Nat) (h : k + 4 ≤ l.length) : ∃ p s b0 b1 b2 b3, l = p ++ [b0, b1, b2, b3] ++ s ∧ p.length = k := by
  refine ⟨l.take k, l.drop (k + 4), l[k], l[k + 1], l[k + 2], l[k + 3], ?_, by simp; omega⟩
  have e1 := (List.take_append_drop k l).symm
  have e2 : l.drop k = l[k] :: l[k + 1] :: l[k + 2] :: l[k + 3] :: l.drop (k + 4) := by
    rw [List.drop_eq_getElem_cons (by omega), List.drop_eq_getElem_cons (by omega), List.drop_eq_getElem_cons (by omega), List.drop_eq_getElem_cons (by omega)]
  rw [e2] at e1
  rw [List.append_assoc]; exact e1
set_option maxRecDepth 100000 in
theorem turned_law (l : List Nat) (k t : Nat) (h : k + 4 ≤ l.length) (ht : t < 4294967296) (h0 : t ≠ 0) (hb : ∀ x ∈ l, x < 256) : addN 0 (fl l k t 4) ≠ addN 0 l := by
  obtain ⟨p, s, b0, b1, b2, b3, rfl, rfl⟩ := four_at l k h
  rw [fl_four]
  exact turned_ne p s t b0 b1 b2 b3 ht h0 hb
end Go.Proofs.Ytjhkdbcfkaaffaa
