/- The plain mathematics of numbers as bytes. -/
import Derived.Test.YtjhkdbcfkaaffaaKit
import Derived.Test.YtjhkdbcfkaaffaaLow
namespace Go.Proofs.Ytjhkdbcfkaaffaa
open Go.RowKit
set_option linter.unusedVariables false

/-- the bytes of a number, the most significant one first -/
def be (v : Nat) : Nat → List Nat
  | 0 => []
  | k + 1 => be (v / 256) k ++ [v % 256]
set_option maxRecDepth 100000 in
theorem be_length (v k : Nat) : (be v k).length = k := by
  induction k generalizing v with
  | zero => rfl
  | succ k ih => simp [be, ih]
set_option maxRecDepth 100000 in
theorem be_lt (v k : Nat) : ∀ x ∈ be v k, x < 256 := by
  induction k generalizing v with
  | zero => simp [be]
  | succ k ih =>
    intro x hx
    simp only [be, List.mem_append, List.mem_singleton] at hx
    rcases hx with h | rfl
    · exact ih _ x h
    · omega
set_option maxRecDepth 100000 in
/-- the first 'j' of them -/
theorem be_take (v k j : Nat) (h : j ≤ k) : (be v k).take j = be (v / 256 ^ (k - j)) j := by
  induction k generalizing v with
  | zero => obtain rfl : j = 0 := by omega
            simp [be]
  | succ k ih =>
    by_cases hj : j = k + 1
    · subst hj; rw [List.take_of_length_le (by rw [be_length]; exact Nat.le_refl _)]; simp
    · rw [be, List.take_append_of_le_length (by rw [be_length]; omega), ih _ (by omega), Nat.div_div_eq_div_mul, ← Nat.pow_succ', show (k - j).succ = k + 1 - j from by omega]
set_option maxRecDepth 100000 in
theorem be_snoc (v k j : Nat) (h : j < k) : (be v k).take (j + 1) = (be v k).take j ++ [v / 256 ^ (k - 1 - j) % 256] := by
  rw [be_take v k (j + 1) h, be_take v k j (by omega), be, Nat.div_div_eq_div_mul, ← Nat.pow_succ, show k - (j + 1) = k - 1 - j from by omega, show (k - 1 - j).succ = k - j from by omega]
def clampSize (s : Int) : Nat := (min (max s 0) 8).toNat
def u64 (n : Int) : Nat := (n % 18446744073709551616).toNat
def putL (l : List Nat) (n : Int) (size : Int) : List Nat := l ++ be (u64 n) (clampSize size)
/-- the number that bytes tell -/
def num (l : List Nat) : Nat := l.foldl (fun v b => v * 256 + b) 0
set_option maxRecDepth 100000 in
theorem u64_cast (n : Int) : ((u64 n : Nat) : Int) = IntKind.u64.wrap n := by rw [wrap_u64]; unfold u64; omega
set_option maxRecDepth 100000 in
theorem u64_lt (n : Int) : u64 n < 18446744073709551616 := by unfold u64; omega
set_option maxRecDepth 100000 in
theorem pow_256 (k : Nat) : 256 ^ k = 2 ^ (8 * k) := by rw [Nat.pow_mul]
set_option maxRecDepth 100000 in
theorem putL_lt (l : List Nat) (n size : Int) (h : ∀ x ∈ l, x < 256) : ∀ x ∈ putL l n size, x < 256 := by
  intro x hx; rcases List.mem_append.1 hx with h1 | h1
  · exact h x h1
  · exact be_lt _ _ x h1
end Go.Proofs.Ytjhkdbcfkaaffaa
