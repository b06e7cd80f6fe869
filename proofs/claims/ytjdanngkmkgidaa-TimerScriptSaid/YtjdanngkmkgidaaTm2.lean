/- The walk of Swap. -/
import Derived.Test.YtjdanngkmkgidaaTm1
import Derived.BigRegion
namespace Go.Proofs.Ytjdanngkmkgidaa
open Go.RowKit
set_option linter.unusedVariables false

theorem grown_set (w : World) (g k : Nat) (v : Value) : w.grownBy (w.setCell ⟨g, k, none⟩ v) (some g) :=
  ⟨rfl, rfl, rfl, by simp [World.setCell], fun b hb hne => Below.heap_setCell _ _ _ _ (by intro e; subst e; exact hne rfl)⟩
theorem swap_flat (n i j : Nat) (f : Nat → One) (hi : i < n) (hj : j < n) (hij : i ≠ j) (sp : List Value) :
    ((((((List.range n).flatMap (fun k => oneCells (f k)) ++ sp).set (i * 2) (.int .i64 (f j).1)).set (i * 2 + 1) (.int .i64 (f j).2)).set (j * 2) (.int .i64 (f i).1)).set (j * 2 + 1) (.int .i64 (f i).2)) = (List.range n).flatMap (fun k => oneCells (swapF f i j k)) ++ sp := by
  have hlen : ∀ h : Nat → One, ((List.range n).flatMap (fun k => oneCells (h k))).length = n * 2 := fun h => by rw [flatMap_len _ 2 (fun _ => rfl), List.length_range]
  apply List.ext_getElem?
  intro q
  by_cases hq : q < n * 2
  · have hr : q % 2 < 2 := Nat.mod_lt _ (by omega)
    have hk : q / 2 < n := by omega
    have hget : ∀ h : Nat → One, ((List.range n).flatMap (fun k => oneCells (h k)) ++ sp)[q]? = (oneCells (h (q / 2)))[q % 2]? := by
      intro h
      rw [List.getElem?_append_left (by rw [hlen]; exact hq)]
      have := flatMap_get (fun k => oneCells (h k)) 2 (fun _ => rfl) (List.range n) (q / 2) (q % 2) hr
      rw [show q / 2 * 2 + q % 2 = q from by omega, List.getElem?_range hk] at this
      exact this
    rw [hget (swapF f i j)]
    simp only [List.getElem?_set, List.length_set, List.length_append, hlen]
    by_cases e1 : q = j * 2 + 1
    · rw [if_pos e1.symm, if_pos (by omega), show q / 2 = j from by omega, show q % 2 = 1 from by omega, swapF_j]; rfl
    · rw [if_neg (fun e => e1 e.symm)]
      by_cases e2 : q = j * 2
      · rw [if_pos e2.symm, if_pos (by omega), show q / 2 = j from by omega, show q % 2 = 0 from by omega, swapF_j]; rfl
      · rw [if_neg (fun e => e2 e.symm)]
        by_cases e3 : q = i * 2 + 1
        · rw [if_pos e3.symm, if_pos (by omega), show q / 2 = i from by omega, show q % 2 = 1 from by omega, swapF_i]; rfl
        · rw [if_neg (fun e => e3 e.symm)]
          by_cases e4 : q = i * 2
          · rw [if_pos e4.symm, if_pos (by omega), show q / 2 = i from by omega, show q % 2 = 0 from by omega, swapF_i]; rfl
          · rw [if_neg (fun e => e4 e.symm), hget f, swapF_o _ _ _ _ (by omega) (by omega)]
  · simp only [List.getElem?_set]
    rw [if_neg (by omega), if_neg (by omega), if_neg (by omega), if_neg (by omega), List.getElem?_append_right (by rw [hlen]; omega), List.getElem?_append_right (by rw [hlen]; omega), hlen, hlen]
set_option maxRecDepth 100000 in
set_option maxHeartbeats 2000000 in
theorem mswap_any (g n c i j : Nat) (f : Nat → One) (sp : List Value) (w : World) (h : HB w g n f sp) (hi : i < n) (hj : j < n) (hn : n ≤ 1000) (hij : i ≠ j) :
    Calls Try.prog 99 #[.slice (some ⟨g, 0, none⟩) n c, .int .i64 i, .int .i64 j] w fun e w' => e = .returned (.tuple #[]) ∧ HB w' g n (swapF f i j) sp ∧ w.grownBy w' (some g) := by
  have x0 := h.c0 hi
  have x1 := h.c1 hi
  have y0 := h.c0 hj
  have y1 := h.c1 hj
  have fz : ∀ k, w.frozen? ⟨g, k, none⟩ = false := fun k => h.frozen k
  have HH := Lib.hid (show HB ((((w.setCell ⟨g, i * 2, none⟩ (.int .i64 (f j).1)).setCell ⟨g, i * 2 + 1, none⟩ (.int .i64 (f j).2)).setCell ⟨g, j * 2, none⟩ (.int .i64 (f i).1)).setCell ⟨g, j * 2 + 1, none⟩ (.int .i64 (f i).2)) g n (swapF f i j) sp from by
    have := (((h.set (i * 2) (.int .i64 (f j).1)).set (i * 2 + 1) (.int .i64 (f j).2)).set (j * 2) (.int .i64 (f i).1)).set (j * 2 + 1) (.int .i64 (f i).2)
    rw [swap_flat n i j f hi hj hij sp] at this; exact this)
  generalize f i = x at *
  generalize f j = y at *
  clear h
  have n1 : i * 2 ≠ j * 2 := by omega
  have n2 : i * 2 + 1 ≠ j * 2 + 1 := by omega
  have n3 : i * 2 ≠ j * 2 + 1 := by omega
  have n4 : i * 2 + 1 ≠ j * 2 := by omega
  go_enter Try.func99, Try.ntmps99
  go_wp2_with fail
  go_region
  go_end0
  refine ⟨rfl, HH.out, ?_⟩
  have h4 := grownBy_trans (grownBy_trans (grownBy_trans (grown_set w g (i * 2) (.int .i64 y.1)) (grown_set _ g (i * 2 + 1) (.int .i64 y.2))) (grown_set _ g (j * 2) (.int .i64 x.1))) (grown_set _ g (j * 2 + 1) (.int .i64 x.2))
  exact ⟨h4.os, h4.tape, h4.output, h4.size, h4.block⟩
end Go.Proofs.Ytjdanngkmkgidaa
