/- The walks of the methods that heap asks for: Len, Less, Swap. -/
import Derived.Test.YtjdanngkmkgidaaTm0
import Derived.Test.YtjdanngkmkgidaaPart3
namespace Go.Proofs.Ytjdanngkmkgidaa
open Go.RowKit
set_option linter.unusedVariables false

def oneCells (x : One) : List Value := [.int .i64 x.1, .int .i64 x.2]
/-- block g holds the pairs f 0, .., f (n - 1), behind them what there is -/
def HB (w : World) (g n : Nat) (f : Nat → One) (sp : List Value) : Prop := Blk w g 81 ((List.range n).flatMap (fun k => oneCells (f k)) ++ sp)
theorem HB.c0 {w : World} {g n : Nat} {f : Nat → One} {sp : List Value} (h : HB w g n f sp) {k : Nat} (hk : k < n) : w.cell? ⟨g, k * 2, none⟩ = some (.int .i64 (f k).1) := by
  unfold HB at h
  rw [h.cell, List.getElem?_append_left (by rw [flatMap_len _ 2 (fun _ => rfl), List.length_range]; omega)]
  have := flatMap_get (fun k => oneCells (f k)) 2 (fun _ => rfl) (List.range n) k 0 (by omega)
  rw [Nat.add_zero] at this
  rw [this, List.getElem?_range hk]; rfl
theorem HB.c1 {w : World} {g n : Nat} {f : Nat → One} {sp : List Value} (h : HB w g n f sp) {k : Nat} (hk : k < n) : w.cell? ⟨g, k * 2 + 1, none⟩ = some (.int .i64 (f k).2) := by
  unfold HB at h
  rw [h.cell, List.getElem?_append_left (by rw [flatMap_len _ 2 (fun _ => rfl), List.length_range]; omega)]
  rw [flatMap_get (fun k => oneCells (f k)) 2 (fun _ => rfl) (List.range n) k 1 (by omega), List.getElem?_range hk]; rfl
theorem orI_lt (a b : One) : decide (orI (cmpI a.1 b.1) (cmpI a.2 b.2) < 0) = ltO a b := by
  unfold ltO
  apply decide_eq_decide.2
  unfold orI cmpI
  by_cases h1 : a.1 < b.1
  · simp [h1]
  · by_cases h2 : b.1 < a.1
    · simp [h1, h2]; omega
    · by_cases h3 : a.2 < b.2
      · simp [h1, h2, h3]; omega
      · by_cases h4 : b.2 < a.2
        · simp [h1, h2, h3, h4]
        · simp [h1, h2, h3, h4]
theorem mlen_any (a : Option Addr) (n c : Nat) (w : World) : Calls Try.prog 97 #[.slice a n c] w fun e w' => e = .returned (.int .i64 n) ∧ w = w' := by
  go_enter Try.func97, Try.ntmps97
  go_wp2
  go_ret
  exact ⟨rfl, rfl⟩
set_option maxRecDepth 100000 in
set_option maxHeartbeats 2000000 in
theorem mless_any (g n c i j : Nat) (f : Nat → One) (sp : List Value) (w : World) (h : HB w g n f sp) (hi : i < n) (hj : j < n) (hn : n ≤ 1000) :
    Calls Try.prog 98 #[.slice (some ⟨g, 0, none⟩) n c, .int .i64 i, .int .i64 j] w fun e w' => e = .returned (.bool (ltO (f i) (f j))) ∧ Below w.heap.size w w' := by
  have x0 := h.c0 hi
  have x1 := h.c1 hi
  have y0 := h.c0 hj
  have y1 := h.c1 hj
  rw [← orI_lt]
  generalize f i = x at *
  generalize f j = y at *
  obtain ⟨xa, xb⟩ := x
  obtain ⟨ya, yb⟩ := y
  simp only at x0 x1 y0 y1 ⊢
  have H1 : RowKit.Hid (∀ W, Calls Try.prog 78 #[.int .i64 xa, .int .i64 ya] W fun e w' => e = .returned (.int .i64 (cmpI xa ya)) ∧ w' = W) := fun W => (icmp_any xa ya W).mono fun e w' h => ⟨h.1, h.2.symm⟩
  have H2 : RowKit.Hid (∀ W, Calls Try.prog 78 #[.int .i64 xb, .int .i64 yb] W fun e w' => e = .returned (.int .i64 (cmpI xb yb)) ∧ w' = W) := fun W => (icmp_any xb yb W).mono fun e w' h => ⟨h.1, h.2.symm⟩
  generalize cmpI xa ya = u at *
  generalize cmpI xb yb = v at *
  clear h
  have i1 : decide (i < n) = true := by simpa using hi
  have i2 : decide (j < n) = true := by simpa using hj
  go_enter Try.func98, Try.ntmps98
  go_wp2_with fail
  go_still_tail 22, (by kernel_rfl)
  still_call (H1.out _)
  repeat still_step
  still_call (H2.out _)
  repeat still_step
  refine wpStill_nil ?_
  go_wp2_with fail
  refine (or_any _ _ 3 u v ?_).mono ?_
  · have h := heap_alloc_new w.drew (.cells #[.int .i64 u, .int .i64 v] 3)
    exact h
  rintro e w' ⟨rfl, rfl⟩
  go_wp2_with fail
  go_ret
  exact ⟨rfl, (below_drewN (Below.refl w.heap.size w) 1).alloc (Nat.le_refl _) _⟩
end Go.Proofs.Ytjdanngkmkgidaa
