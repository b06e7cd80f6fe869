/- The walk of Low: a number, from 0 to below n. -/
import Derived.Test.YtcjfiofnidnlaaaRows
import Derived.Test.YtcjfiofnidnlaaaBase
namespace Go.Proofs.Ytcjfiofnidnlaaa
open Go.RowKit
set_option linter.unusedVariables false

def lowI (x : Int) (n : Int) : Int := IntKind.u64.wrap x % n
theorem wrap_u64 (n : Int) : IntKind.u64.wrap n = n % 18446744073709551616 := by simp [IntKind.wrap, IntKind.bits, IntKind.signed]

theorem lowI_bd (x n : Int) (h1 : 1 ≤ n) : 0 ≤ lowI x n ∧ lowI x n < n := ⟨Int.emod_nonneg _ (by omega), Int.emod_lt_of_pos _ (by omega)⟩
theorem low_eq (x n : Int) (h1 : 1 ≤ n) (h2 : n ≤ 9223372036854775807) : wrap64 ((IntKind.u64.wrap x).tmod n) = lowI x n := by
  have h0 : 0 ≤ IntKind.u64.wrap x := by rw [wrap_u64]; omega
  have hb := lowI_bd x n h1
  rw [Int.tmod_eq_emod_of_nonneg h0]
  show wrap64 (lowI x n) = lowI x n
  exact IntWalk.wrap64_in _ ⟨by omega, by omega⟩

set_option maxHeartbeats 400000 in
theorem low_any (x n : Int) (w : World) (h1 : 1 ≤ n) (h2 : n ≤ 9223372036854775807) :
    Calls Try.prog 18 #[.int .i64 x, .int .i64 n] w fun e w' => e = .returned (.int .i64 (lowI x n)) ∧ w = w' := by
  go_enter Try.func18, Try.ntmps18
  go_wp2
  go_ret
  exact ⟨ret_int (low_eq x n h1 h2), rfl⟩
end Go.Proofs.Ytcjfiofnidnlaaa
