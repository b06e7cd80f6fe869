/- The plain mathematics of the check sum. -/
import Derived.Laws.Entries
namespace Go.Proofs.Ytjhkdbcfkaaffaa
open Go
set_option maxRecDepth 100000 in
theorem wrap_u32 (n : Int) : IntKind.u32.wrap n = n % 4294967296 := by simp [IntKind.wrap, IntKind.bits, IntKind.signed]

set_option maxRecDepth 100000 in
theorem bits_xor_u32 (a b : Nat) (ha : a < 4294967296) (hb : b < 4294967296) : bits .xor .u32 (a : Int) (b : Int) = ((a ^^^ b : Nat) : Int) := by
  have hx : a ^^^ b < 2 ^ 32 := Nat.xor_lt_two_pow (by omega) (by omega)
  have h1 : (BitVec.ofInt 32 (a : Int)).toNat = a := by
    rw [BitVec.ofInt_natCast, BitVec.toNat_ofNat]; exact Nat.mod_eq_of_lt (by omega)
  have h2 : (BitVec.ofInt 32 (b : Int)).toNat = b := by
    rw [BitVec.ofInt_natCast, BitVec.toNat_ofNat]; exact Nat.mod_eq_of_lt (by omega)
  show IntKind.u32.wrap ((BitVec.ofInt 32 (a : Int) ^^^ BitVec.ofInt 32 (b : Int)).toNat : Int) = _
  rw [BitVec.toNat_xor, h1, h2, wrap_u32]
  omega
set_option maxRecDepth 100000 in
theorem bits_and1_u32 (a : Nat) (ha : a < 4294967296) : bits .and .u32 (a : Int) 1 = ((a % 2 : Nat) : Int) := by
  have h1 : (BitVec.ofInt 32 (a : Int)).toNat = a := by
    rw [BitVec.ofInt_natCast, BitVec.toNat_ofNat]; exact Nat.mod_eq_of_lt (by omega)
  have h2 : (BitVec.ofInt 32 1).toNat = 1 := by decide
  show IntKind.u32.wrap ((BitVec.ofInt 32 (a : Int) &&& BitVec.ofInt 32 1).toNat : Int) = _
  rw [BitVec.toNat_and, h1, h2, wrap_u32, Nat.and_one_is_mod]
  omega

def poly : Nat := 3988292384
/-- one bit out -/
def step (c : Nat) : Nat := if c % 2 = 1 then (c / 2) ^^^ poly else c / 2
def steps : Nat → Nat → Nat
  | 0, c => c
  | k + 1, c => step (steps k c)
def turnN (c b : Nat) : Nat := steps 8 (c ^^^ b)
def addL (c : Nat) (l : List Nat) : Nat := l.foldl turnN c
/-- all bits turned -/
def inv (c : Nat) : Nat := 4294967295 - c
def addN (c : Nat) (l : List Nat) : Nat := inv (addL (inv c) l)

set_option maxRecDepth 100000 in
theorem bits_not_u32 (c : Nat) (hc : c < 4294967296) : bits .xor .u32 IntKind.u32.max (c : Int) = ((inv c : Nat) : Int) := by
  have h1 : IntKind.u32.max = ((4294967295 : Nat) : Int) := by decide
  rw [h1, bits_xor_u32 _ c (by decide) hc]
  have h2 : 4294967295 ^^^ c = 4294967295 - c := by
    apply Nat.eq_of_testBit_eq
    intro i
    have e1 : (4294967295 : Nat) = 2 ^ 32 - 1 := by decide
    have e2 : 4294967295 - c = 2 ^ 32 - (c + 1) := by omega
    rw [Nat.testBit_xor, e2, Nat.testBit_two_pow_sub_succ (by omega), e1, Nat.testBit_two_pow_sub_one]
    by_cases hi : i < 32
    · simp [hi]
    · have : c.testBit i = false := Nat.testBit_lt_two_pow (Nat.lt_of_lt_of_le (show c < 2 ^ 32 by omega) (Nat.pow_le_pow_right (by decide) (by omega)))
      simp [hi, this]
  rw [h2]; rfl
set_option maxRecDepth 100000 in
theorem step_lt {c : Nat} (h : c < 4294967296) : step c < 4294967296 := by
  unfold step
  split
  · exact Nat.xor_lt_two_pow (n := 32) (by omega) (by decide)
  · omega
set_option maxRecDepth 100000 in
theorem steps_lt (k : Nat) {c : Nat} (h : c < 4294967296) : steps k c < 4294967296 := by
  induction k with
  | zero => exact h
  | succ k ih => exact step_lt ih
set_option maxRecDepth 100000 in
theorem xor_lt {a b : Nat} (h : a < 4294967296) (h' : b < 4294967296) : a ^^^ b < 4294967296 := Nat.xor_lt_two_pow (n := 32) (by omega) (by omega)
set_option maxRecDepth 100000 in
theorem turnN_lt {c b : Nat} (h : c < 4294967296) (hb : b < 256) : turnN c b < 4294967296 := steps_lt 8 (xor_lt h (by omega))
set_option maxRecDepth 100000 in
theorem addL_snoc (c : Nat) (l : List Nat) (b : Nat) : addL c (l ++ [b]) = turnN (addL c l) b := by simp [addL]
set_option maxRecDepth 100000 in
theorem addL_lt (l : List Nat) : ∀ {c : Nat}, c < 4294967296 → (∀ b ∈ l, b < 256) → addL c l < 4294967296 := by
  induction l with
  | nil => intro c h _; exact h
  | cons b r ih => intro c h hb; exact ih (turnN_lt h (hb b (by simp))) (fun x hx => hb x (by simp [hx]))
set_option maxRecDepth 100000 in
theorem addL_append (c : Nat) (a b : List Nat) : addL c (a ++ b) = addL (addL c a) b := by simp [addL]
set_option maxRecDepth 100000 in
theorem inv_inv {c : Nat} (h : c < 4294967296) : inv (inv c) = c := by unfold inv; omega
set_option maxRecDepth 100000 in
theorem inv_lt (c : Nat) : inv c < 4294967296 := by unfold inv; omega
set_option maxRecDepth 100000 in
theorem addN_append {c : Nat} (a b : List Nat) (ha : ∀ x ∈ a, x < 256) : addN (addN c a) b = addN c (a ++ b) := by
  unfold addN; rw [inv_inv (addL_lt a (inv_lt c) ha), addL_append]

end Go.Proofs.Ytjhkdbcfkaaffaa
