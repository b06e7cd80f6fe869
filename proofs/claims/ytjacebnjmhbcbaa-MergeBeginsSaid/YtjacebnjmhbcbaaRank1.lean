/- The walks of rank.compare, rank.Less. -/
import Derived.Test.YtjacebnjmhbcbaaKeyL
namespace Go.Proofs.Ytjacebnjmhbcbaa
open Go.RowKit
set_option linter.unusedVariables false

set_option maxRecDepth 100000 in
set_option maxHeartbeats 4000000 in
theorem itcmp_any (la : Int) (ta : ByteArray) (lb : Int) (tb : ByteArray) (w : World) :
    Calls Try.prog 38 #[.agg #[.int .i64 la, .string ta], .agg #[.int .i64 lb, .string tb]] w fun e w' => e = .returned (.int .i64 (cmpK la ta lb tb)) ∧ Below w.heap.size w w' := by
  unfold cmpK
  have H1 : RowKit.Hid (∀ W, Calls Try.prog 58 #[.int .i64 la, .int .i64 lb] W fun e w' => e = .returned (.int .i64 (cmpI la lb)) ∧ w' = W) := fun W => (icmp_any la lb W).mono fun e w' h => ⟨h.1, h.2.symm⟩
  have H2 : RowKit.Hid (∀ W, Calls Try.prog 55 #[.string ta, .string tb] W fun e w' => e = .returned (.int .i64 (cmpT ta tb)) ∧ w' = W) := fun W => (tcmp_any ta tb W).mono fun e w' h => ⟨h.1, h.2.symm⟩
  generalize cmpI la lb = x at *
  generalize cmpT ta tb = y at *
  have HB : RowKit.Hid (∀ W : World, W.heap = (((w.alloc (.cells #[.int .i64 la, .string ta] 31)).alloc (.cells #[.int .i64 lb, .string tb] 31)).alloc (.cells #[.int .i64 x, .int .i64 y] 3)).heap → Blk W (w.heap.size + 1 + 1) 3 [.int .i64 x, .int .i64 y]) := by
    intro W hW
    have h := heap_alloc_new ((w.alloc (.cells #[.int .i64 la, .string ta] 31)).alloc (.cells #[.int .i64 lb, .string tb] 31)) (.cells #[.int .i64 x, .int .i64 y] 3)
    unfold Blk
    rw [hW]
    simpa using h
  have HW : RowKit.Hid (Below w.heap.size w (((w.alloc (.cells #[.int .i64 la, .string ta] 31)).alloc (.cells #[.int .i64 lb, .string tb] 31)).alloc (.cells #[.int .i64 x, .int .i64 y] 3))) := by
    exact (((Below.refl _ w).alloc (Nat.le_refl _) _).alloc (by simp) _).alloc (by simp; omega) _
  go_enter Try.func38, Try.ntmps38
  go_wp2_with fail
  obtain ⟨W0, hW0⟩ : ∃ W0, (w.alloc (.cells #[.int .i64 la, .string ta] 31)).alloc (.cells #[.int .i64 lb, .string tb] 31) = W0 := ⟨_, rfl⟩
  have HA : Blk W0 w.heap.size 31 [.int .i64 la, .string ta] := by
    subst hW0; exact Blk.alloc (show Blk (w.alloc _) _ _ _ by unfold Blk; rw [heap_alloc_new]) _
  have HC : Blk W0 (w.heap.size + 1) 31 [.int .i64 lb, .string tb] := by
    subst hW0
    have h := heap_alloc_new (w.alloc (.cells #[.int .i64 la, .string ta] 31)) (.cells #[.int .i64 lb, .string tb] 31)
    unfold Blk
    simpa using h
  have x0 : W0.cell? ⟨w.heap.size, 0, none⟩ = some (.int .i64 la) := HA.cell 0
  have x1 : W0.cell? ⟨w.heap.size, 1, none⟩ = some (.string ta) := HA.cell 1
  have y0 : W0.cell? ⟨w.heap.size + 1, 0, none⟩ = some (.int .i64 lb) := HC.cell 0
  have y1 : W0.cell? ⟨w.heap.size + 1, 1, none⟩ = some (.string tb) := HC.cell 1
  rw [hW0]
  go_still_tail 10, (by kernel_rfl)
  still_call (H1.out _)
  repeat still_step
  still_call (H2.out _)
  repeat still_step
  refine wpStill_nil ?_
  go_wp2_with fail
  refine (or_any _ _ 3 x y ?_).mono ?_
  · have h := heap_alloc_new W0 (.cells #[.int .i64 x, .int .i64 y] 3)
    exact h
  rintro e w' ⟨rfl, rfl⟩
  go_wp2_with fail
  go_ret
  subst hW0
  exact ⟨rfl, HW.out.os, HW.out.tape, HW.out.output, HW.out.size, HW.out.block⟩
set_option maxHeartbeats 1000000 in
theorem itless_any (la : Int) (ta : ByteArray) (lb : Int) (tb : ByteArray) (w : World) :
    Calls Try.prog 12 #[.agg #[.int .i64 la, .string ta], .agg #[.int .i64 lb, .string tb]] w fun e w' => e = .returned (.bool (decide (cmpK la ta lb tb < 0))) ∧ Below w.heap.size w w' := by
  have HK : RowKit.Hid (∀ W, Calls Try.prog 38 #[.agg #[.int .i64 la, .string ta], .agg #[.int .i64 lb, .string tb]] W fun e w' => e = .returned (.int .i64 (cmpK la ta lb tb)) ∧ Below W.heap.size W w') := fun W => itcmp_any la ta lb tb W
  generalize cmpK la ta lb tb = x at *
  have HW : RowKit.Hid (Below w.heap.size w ((w.alloc (.cells #[.int .i64 la, .string ta] 31)).alloc (.cells #[.int .i64 lb, .string tb] 31))) := by
    exact ((Below.refl _ w).alloc (Nat.le_refl _) _).alloc (by simp) _
  go_enter Try.func12, Try.ntmps12
  go_wp2_with fail
  refine (HK.out _).mono ?_
  rintro e w' ⟨rfl, hb⟩
  have HB := Lib.hid (HW.out.trans (hb.mono (by simp; omega)))
  clear hb
  go_wp2_with fail
  go_ret
  exact ⟨rfl, HB.out⟩
end Go.Proofs.Ytjacebnjmhbcbaa
