/- The walks of comparing keys. -/
import Derived.Test.YtjdanngkmkgidaaPart2
import Derived.StillTailTactics
namespace Go.Proofs.Ytjdanngkmkgidaa
open Go.RowKit
set_option linter.unusedVariables false

def orI (x y : Int) : Int := if x = 0 then y else x
set_option maxHeartbeats 1000000 in
theorem or_any (w : World) (g : Nat) (ty : TypeId) (x y : Int) (h : Blk w g ty [.int .i64 x, .int .i64 y]) :
    Calls Try.prog 77 #[.slice (some ⟨g, 0, none⟩) 2 2] w fun e w' => e = .returned (.int .i64 (orI x y)) ∧ w = w' := by
  have c0 : w.cell? ⟨g, 0, none⟩ = some (.int .i64 x) := h.cell 0
  have c1 : w.cell? ⟨g, 1, none⟩ = some (.int .i64 y) := h.cell 1
  clear h
  go_enter Try.func77, Try.ntmps77
  go_wp2_with fail
  go_loopw [2, 8] (fun r i wr => ∃ k : Nat, k ≤ 2 ∧ i = .int .i64 k ∧ r = .int .i64 0 ∧ wr = w ∧ (1 ≤ k → x = 0) ∧ (2 ≤ k → y = 0)) (fun _ i _ => 2 - (intOf i).toNat)
  case atStart => exact ⟨0, by omega, rfl, rfl, rfl, by omega, by omega⟩
  case round =>
    obtain ⟨k, hk, rfl, rfl, rfl, hx, hy⟩ := hrel
    rcases (by omega : k = 0 ∨ k = 1 ∨ k = 2) with rfl | rfl | rfl
    · by_cases h0 : x = 0
      · subst h0
        go_wp2_with fail
        go_roundw
        case rel => exact ⟨1, by simp⟩
        case measure => simp [intOf]
      · have hne : (x == 0) = false := by simp; omega
        go_wp2_with fail
        go_ret
        unfold orI
        rw [if_neg h0]
        exact ⟨rfl, rfl⟩
    · obtain rfl := hx (by omega)
      by_cases h0 : y = 0
      · subst h0
        go_wp2_with fail
        go_roundw
        case rel => exact ⟨2, by simp⟩
        case measure => simp [intOf]
      · have hne : (y == 0) = false := by simp; omega
        go_wp2_with fail
        go_ret
        unfold orI
        rw [if_pos rfl]
        exact ⟨rfl, rfl⟩
    · obtain rfl := hx (by omega)
      obtain rfl := hy (by omega)
      go_wp2_with fail
      go_ret
      exact ⟨rfl, rfl⟩

def cmpK (la : Int) (ta : ByteArray) (lb : Int) (tb : ByteArray) : Int := orI (cmpI la lb) (cmpT ta tb)
set_option maxRecDepth 100000 in
set_option maxHeartbeats 4000000 in
theorem kcmp_any (la : Int) (ta : ByteArray) (lb : Int) (tb : ByteArray) (w : World) :
    Calls Try.prog 70 #[.agg #[.int .i64 la, .string ta], .agg #[.int .i64 lb, .string tb]] w fun e w' => e = .returned (.int .i64 (cmpK la ta lb tb)) ∧ Below w.heap.size w w' := by
  unfold cmpK
  have H1 : RowKit.Hid (∀ W, Calls Try.prog 78 #[.int .i64 la, .int .i64 lb] W fun e w' => e = .returned (.int .i64 (cmpI la lb)) ∧ w' = W) := fun W => (icmp_any la lb W).mono fun e w' h => ⟨h.1, h.2.symm⟩
  have H2 : RowKit.Hid (∀ W, Calls Try.prog 57 #[.string ta, .string tb] W fun e w' => e = .returned (.int .i64 (cmpT ta tb)) ∧ w' = W) := fun W => (tcmp_any ta tb W).mono fun e w' h => ⟨h.1, h.2.symm⟩
  generalize cmpI la lb = x at *
  generalize cmpT ta tb = y at *
  have HB : RowKit.Hid (∀ W : World, W.heap = (((w.alloc (.cells #[.int .i64 la, .string ta] 92)).alloc (.cells #[.int .i64 lb, .string tb] 92)).alloc (.cells #[.int .i64 x, .int .i64 y] 3)).heap → Blk W (w.heap.size + 1 + 1) 3 [.int .i64 x, .int .i64 y]) := by
    intro W hW
    have h := heap_alloc_new ((w.alloc (.cells #[.int .i64 la, .string ta] 92)).alloc (.cells #[.int .i64 lb, .string tb] 92)) (.cells #[.int .i64 x, .int .i64 y] 3)
    unfold Blk
    rw [hW]
    simpa using h
  have HW : RowKit.Hid (Below w.heap.size w (((w.alloc (.cells #[.int .i64 la, .string ta] 92)).alloc (.cells #[.int .i64 lb, .string tb] 92)).alloc (.cells #[.int .i64 x, .int .i64 y] 3))) := by
    exact (((Below.refl _ w).alloc (Nat.le_refl _) _).alloc (by simp) _).alloc (by simp; omega) _
  go_enter Try.func70, Try.ntmps70
  go_wp2_with fail
  obtain ⟨W0, hW0⟩ : ∃ W0, (w.alloc (.cells #[.int .i64 la, .string ta] 92)).alloc (.cells #[.int .i64 lb, .string tb] 92) = W0 := ⟨_, rfl⟩
  have HA : Blk W0 w.heap.size 92 [.int .i64 la, .string ta] := by
    subst hW0; exact Blk.alloc (show Blk (w.alloc _) _ _ _ by unfold Blk; rw [heap_alloc_new]) _
  have HC : Blk W0 (w.heap.size + 1) 92 [.int .i64 lb, .string tb] := by
    subst hW0
    have h := heap_alloc_new (w.alloc (.cells #[.int .i64 la, .string ta] 92)) (.cells #[.int .i64 lb, .string tb] 92)
    unfold Blk
    simpa using h
  have x0 : W0.cell? ⟨w.heap.size, 0, none⟩ = some (.int .i64 la) := HA.cell 0
  have x1 : W0.cell? ⟨w.heap.size, 1, none⟩ = some (.string ta) := HA.cell 1
  have y0 : W0.cell? ⟨w.heap.size + 1, 0, none⟩ = some (.int .i64 lb) := HC.cell 0
  have y1 : W0.cell? ⟨w.heap.size + 1, 1, none⟩ = some (.string tb) := HC.cell 1
  rw [hW0]
  go_still_tail 10, (by kernel_rfl)
  still_call (H1.out _)
  repeat still_step
  still_call (H2.out _)
  repeat still_step
  refine wpStill_nil ?_
  go_wp2_with fail
  refine (or_any _ _ 3 x y ?_).mono ?_
  · have h := heap_alloc_new W0 (.cells #[.int .i64 x, .int .i64 y] 3)
    exact h
  rintro e w' ⟨rfl, rfl⟩
  go_wp2_with fail
  go_ret
  subst hW0
  exact ⟨rfl, HW.out.os, HW.out.tape, HW.out.output, HW.out.size, HW.out.block⟩
end Go.Proofs.Ytjdanngkmkgidaa
