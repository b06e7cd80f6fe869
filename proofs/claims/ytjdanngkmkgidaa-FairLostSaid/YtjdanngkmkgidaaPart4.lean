/- The walk of which key is below. -/
import Derived.Test.YtjdanngkmkgidaaPart3
namespace Go.Proofs.Ytjdanngkmkgidaa
open Go.RowKit
set_option linter.unusedVariables false

set_option maxHeartbeats 1000000 in
theorem kless_any (la : Int) (ta : ByteArray) (lb : Int) (tb : ByteArray) (w : World) :
    Calls Try.prog 59 #[.agg #[.int .i64 la, .string ta], .agg #[.int .i64 lb, .string tb]] w fun e w' => e = .returned (.bool (decide (cmpK la ta lb tb < 0))) ∧ Below w.heap.size w w' := by
  have HK : RowKit.Hid (∀ W, Calls Try.prog 70 #[.agg #[.int .i64 la, .string ta], .agg #[.int .i64 lb, .string tb]] W fun e w' => e = .returned (.int .i64 (cmpK la ta lb tb)) ∧ Below W.heap.size W w') := fun W => kcmp_any la ta lb tb W
  generalize cmpK la ta lb tb = x at *
  have HW : RowKit.Hid (Below w.heap.size w ((w.alloc (.cells #[.int .i64 la, .string ta] 92)).alloc (.cells #[.int .i64 lb, .string tb] 92))) := by
    exact ((Below.refl _ w).alloc (Nat.le_refl _) _).alloc (by simp) _
  go_enter Try.func59, Try.ntmps59
  go_wp2_with fail
  refine (HK.out _).mono ?_
  rintro e w' ⟨rfl, hb⟩
  have HB := Lib.hid (HW.out.trans (hb.mono (by simp; omega)))
  clear hb
  go_wp2_with fail
  go_ret
  exact ⟨rfl, HB.out⟩
end Go.Proofs.Ytjdanngkmkgidaa
