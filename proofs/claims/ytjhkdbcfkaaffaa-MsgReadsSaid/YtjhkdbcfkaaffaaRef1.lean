/- The walks of the document's decoder of runes. -/
import Derived.Test.YtjhkdbcfkaaffaaRef0
import Derived.Test.YtjhkdbcfkaaffaaStrs
import Derived.Test.YtjhkdbcfkaaffaaRunes1
namespace Go.Proofs.Ytjhkdbcfkaaffaa
open Go.RowKit
set_option linter.unusedVariables false

def moreB (s : ByteArray) (i : Nat) : Bool := decide (i < s.size ∧ 128 ≤ byteN s i ∧ byteN s i ≤ 191)
def moreR (s : ByteArray) (i : Nat) : Int := if moreB s i = true then (byteN s i : Int) - 128 else 0
set_option maxRecDepth 100000 in
theorem more_any (s : ByteArray) (i : Nat) (w : World) (hs : s.size ≤ 1000000) (hi : i ≤ 2000000) :
    Calls Try.prog 99 #[.string s, .int .i64 i] w fun e w' => e = .returned (.tuple #[.int .i32 (moreR s i), .bool (moreB s i)]) ∧ w = w' := by
  by_cases h : i < s.size
  · have hix : ∀ w, (Instr.index 9 (.string s) (.int .i64 i)).run Try.prog w = .ok (.int .u8 (byteN s i)) w := fun w => by
      rw [run_index_string w _ _ _ _ Try.underlying9]; simp [h, byteN_at s i h]
    have hl := byteN_lt s i
    unfold moreR moreB
    generalize byteN s i = x at *
    have d0 : decide ((s.size : Int) ≤ i) = false := by simp; omega
    by_cases h1 : x < 128
    · have e1 : decide (i < s.size ∧ 128 ≤ x ∧ x ≤ 191) = false := by simp; omega
      rw [e1]
      have d1 : decide ((x : Int) < 128) = true := by simp; omega
      go_enter Try.func99, Try.ntmps99
      go_wp2_with fail
      go_ret2
      exact ⟨by simp, rfl⟩
    · by_cases h2 : 191 < x
      · have e1 : decide (i < s.size ∧ 128 ≤ x ∧ x ≤ 191) = false := by simp; omega
        rw [e1]
        have d1 : decide ((x : Int) < 128) = false := by simp; omega
        have d2 : decide (191 < (x : Int)) = true := by simp; omega
        go_enter Try.func99, Try.ntmps99
        go_wp2_with fail
        go_ret2
        exact ⟨by simp, rfl⟩
      · have e1 : decide (i < s.size ∧ 128 ≤ x ∧ x ≤ 191) = true := by simp; omega
        rw [e1]
        have d1 : decide ((x : Int) < 128) = false := by simp; omega
        have d2 : decide (191 < (x : Int)) = false := by simp; omega
        go_enter Try.func99, Try.ntmps99
        go_wp2_with fail
        go_ret2
        exact ⟨by simp, rfl⟩
  · have e1 : moreB s i = false := by unfold moreB; simp; omega
    have e2 : moreR s i = 0 := by unfold moreR; rw [e1]; rfl
    rw [e1, e2]
    have d0 : decide ((s.size : Int) ≤ i) = true := by simp; omega
    go_enter Try.func99, Try.ntmps99
    go_wp2_with fail
    go_ret2
    exact ⟨rfl, rfl⟩
end Go.Proofs.Ytjhkdbcfkaaffaa
