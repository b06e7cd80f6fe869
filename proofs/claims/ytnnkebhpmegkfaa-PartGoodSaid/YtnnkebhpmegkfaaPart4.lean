/- The walk of which key is below. -/
import Derived.Test.YtnnkebhpmegkfaaPart3
import Derived.Test.YtnnkebhpmegkfaaPartL
namespace Go.Proofs.Ytnnkebhpmegkfaa
open Go.RowKit
set_option linter.unusedVariables false

theorem cmpK_neg (la : Int) (ta : ByteArray) (lb : Int) (tb : ByteArray) : cmpK la ta lb tb < 0 ↔ la < lb ∨ la = lb ∧ cmpT ta tb < 0 := by
  unfold cmpK orI cmpI
  by_cases h1 : la < lb
  · simp [h1]
  · by_cases h2 : lb < la
    · simp [h1, h2]; omega
    · simp [h1, h2]; omega
theorem cmpK_trans {la : Int} {ta : ByteArray} {lb : Int} {tb : ByteArray} {lc : Int} {tc : ByteArray} (h : cmpK la ta lb tb < 0) (k : cmpK lb tb lc tc < 0) : cmpK la ta lc tc < 0 := by
  rw [cmpK_neg] at h k ⊢
  rcases h with h | ⟨rfl, h⟩
  · rcases k with k | ⟨rfl, k⟩
    · left; omega
    · exact .inl h
  · rcases k with k | ⟨rfl, k⟩
    · exact .inl k
    · exact .inr ⟨rfl, cb_trans _ _ _ h k⟩

set_option maxHeartbeats 1000000 in
theorem kless_any (la : Int) (ta : ByteArray) (lb : Int) (tb : ByteArray) (w : World) :
    Calls Try.prog 33 #[.agg #[.int .i64 la, .string ta], .agg #[.int .i64 lb, .string tb]] w fun e w' => e = .returned (.bool (decide (cmpK la ta lb tb < 0))) ∧ Below w.heap.size w w' := by
  have HK : RowKit.Hid (∀ W, Calls Try.prog 55 #[.agg #[.int .i64 la, .string ta], .agg #[.int .i64 lb, .string tb]] W fun e w' => e = .returned (.int .i64 (cmpK la ta lb tb)) ∧ Below W.heap.size W w') := fun W => kcmp_any la ta lb tb W
  generalize cmpK la ta lb tb = x at *
  have HW : RowKit.Hid (Below w.heap.size w ((w.alloc (.cells #[.int .i64 la, .string ta] 58)).alloc (.cells #[.int .i64 lb, .string tb] 58))) := by
    exact ((Below.refl _ w).alloc (Nat.le_refl _) _).alloc (by simp) _
  go_enter Try.func33, Try.ntmps33
  go_wp2_with fail
  refine (HK.out _).mono ?_
  rintro e w' ⟨rfl, hb⟩
  have HB := Lib.hid (HW.out.trans (hb.mono (by simp; omega)))
  clear hb
  go_wp2_with fail
  go_ret
  exact ⟨rfl, HB.out⟩
end Go.Proofs.Ytnnkebhpmegkfaa
