/- Low: a number below another one. -/
import Derived.Test.YtjacebnjmhbcbaaRows
import Derived.Test.YtjacebnjmhbcbaaKit
namespace Go.Proofs.Ytjacebnjmhbcbaa
open Go.RowKit
set_option linter.unusedVariables false
theorem low_any (x n : Int) (w : World) (h1 : 1 ≤ n) (h2 : n ≤ 9223372036854775807) :
    Calls Try.prog 31 #[.int .i64 x, .int .i64 n] w fun e w' => e = .returned (.int .i64 (lowI x n)) ∧ w = w' := by
  go_enter Try.func31, Try.ntmps31
  go_wp2
  go_ret
  exact ⟨ret_int (low_eq x n h1 h2), rfl⟩
end Go.Proofs.Ytjacebnjmhbcbaa
