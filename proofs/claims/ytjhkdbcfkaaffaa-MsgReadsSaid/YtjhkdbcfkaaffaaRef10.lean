/- The walk of the document's Less of items. -/
import Derived.Test.YtjhkdbcfkaaffaaRefC
import Derived.Test.YtjhkdbcfkaaffaaKeyL
namespace Go.Proofs.Ytjhkdbcfkaaffaa
open Go.RowKit
set_option linter.unusedVariables false

set_option maxRecDepth 100000 in
set_option maxHeartbeats 2000000 in
theorem ritless_any (la : Int) (ta : ByteArray) (lb : Int) (tb : ByteArray) (w : World) (h1 : ta.size ≤ 1000000) (h2 : tb.size ≤ 1000000) :
    Calls Try.prog 71 #[.agg #[.int .i64 la, .string ta], .agg #[.int .i64 lb, .string tb]] w fun e w' => e = .returned (.bool (decide (cmpK la ta lb tb < 0))) ∧ Below w.heap.size w w' := by
  obtain ⟨g, hg⟩ : ∃ g, decide (cmpK la ta lb tb < 0) = g := ⟨_, rfl⟩
  rw [hg]
  have HG : RowKit.Hid (g = decide (la < lb ∨ la = lb ∧ cmpT ta tb < 0)) := by rw [← hg]; exact decide_eq_decide.2 (cmpK_neg la ta lb tb)
  clear hg
  have HT := Lib.hid (fun W => rcmp_any ta tb W h1 h2)
  have HW : RowKit.Hid (Below w.heap.size w ((w.alloc (.cells #[.int .i64 la, .string ta] 27)).alloc (.cells #[.int .i64 lb, .string tb] 27))) := ((Below.refl _ w).alloc (Nat.le_refl _) _).alloc (by simp) _
  generalize cmpT ta tb = z at *
  by_cases c1 : la < lb
  · obtain rfl : g = true := by rw [HG.out]; simp [c1]
    have d1 : decide (la < lb) = true := by simpa using c1
    go_enter Try.func71, Try.ntmps71
    go_wp2_with fail
    go_ret
    exact ⟨rfl, HW.out⟩
  · have d1 : decide (la < lb) = false := by simpa using c1
    by_cases c2 : la = lb
    · subst c2
      have hg : g = decide (z < 0) := by rw [HG.out]; exact decide_eq_decide.2 (by omega)
      have d2 : (la == la) = true := by simp
      clear HG
      cases hz : decide (z < 0) with
      | true =>
        have d3 : decide (z < 0) = true := hz
        obtain rfl : g = true := by rw [hg, d3]
        clear hg hz
        go_enter Try.func71, Try.ntmps71
        go_wp2_with fail
        refine (HT.out _).mono ?_
        rintro e w' ⟨rfl, hd⟩
        have HB := Lib.hid (HW.out.trans (hd.below _))
        clear hd
        go_wp2_with fail
        go_ret
        exact ⟨rfl, HB.out⟩
      | false =>
        have d3 : decide (z < 0) = false := hz
        obtain rfl : g = false := by rw [hg, d3]
        clear hg hz
        go_enter Try.func71, Try.ntmps71
        go_wp2_with fail
        refine (HT.out _).mono ?_
        rintro e w' ⟨rfl, hd⟩
        have HB := Lib.hid (HW.out.trans (hd.below _))
        clear hd
        go_wp2_with fail
        go_ret
        exact ⟨rfl, HB.out⟩
    · obtain rfl : g = false := by rw [HG.out]; simp [c1, c2]
      have d2 : (la == lb) = false := by simpa using c2
      go_enter Try.func71, Try.ntmps71
      go_wp2_with fail
      go_ret
      exact ⟨rfl, HW.out⟩
end Go.Proofs.Ytjhkdbcfkaaffaa
