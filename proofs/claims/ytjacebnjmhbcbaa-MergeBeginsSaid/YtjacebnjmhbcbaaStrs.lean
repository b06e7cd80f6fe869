/- Plain words on strings: bytes as numbers; strings that differ. -/
import Derived.Test.YtjacebnjmhbcbaaPart1
namespace Go.Proofs.Ytjacebnjmhbcbaa
open Go.RowKit
set_option linter.unusedVariables false

theorem str_ne {x y : ByteArray} (h : x ≠ y) : (x.toList == y.toList) = false := by
  rw [beq_eq_false_iff_ne]; intro e; apply h; rw [ByteArray.toList_eq, ByteArray.toList_eq] at e; exact ByteArray.ext (Array.toList_inj.1 e)
def byteN (s : ByteArray) (i : Nat) : Nat := (s.get! i).toNat
theorem byteN_lt (s : ByteArray) (i : Nat) : byteN s i < 256 := (s.get! i).toNat_lt
theorem byteN_at (s : ByteArray) (i : Nat) (h : i < s.size) : (s[i]'h).toNat = byteN s i := by
  unfold byteN
  have := get_at s i h
  rw [Nat.add_zero] at this
  rw [this]
end Go.Proofs.Ytjacebnjmhbcbaa
