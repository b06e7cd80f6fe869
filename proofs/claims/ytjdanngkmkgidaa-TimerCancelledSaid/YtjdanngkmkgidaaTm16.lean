/- The walk of TimerNone. -/
import Derived.Test.YtjdanngkmkgidaaTm15
namespace Go.Proofs.Ytjdanngkmkgidaa
open Go.RowKit
set_option linter.unusedVariables false

theorem due_nil (now : Int) (w : World) : Calls Try.prog 16 #[.pointer none, .int .i64 now] w fun e w' => e = .returned (.slice none 0 0) ∧ w = w' := by
  go_enter Try.func16, Try.ntmps16
  go_wp2_with fail
  go_ret
  exact ⟨rfl, rfl⟩
set_option maxRecDepth 100000 in
set_option maxHeartbeats 2000000 in
theorem none_walk (b : Bool) (id at_ : Int) (w : World) : Calls Try.prog 7 #[.agg #[.bool b, .int .i64 id, .int .i64 at_]] w fun e w' => e = .returned (.bool true) ∧ Below w.heap.size w w' := by
  have hx1 : (w.alloc (.cells #[.bool b, .int .i64 id, .int .i64 at_] 46)).cell? ⟨w.heap.size, 1, none⟩ = some (.int .i64 id) := by rw [cell_of_row _ _ _ _ _ _ (heap_alloc_new w _)]; rfl
  have hx2 : (w.alloc (.cells #[.bool b, .int .i64 id, .int .i64 at_] 46)).cell? ⟨w.heap.size, 2, none⟩ = some (.int .i64 at_) := by rw [cell_of_row _ _ _ _ _ _ (heap_alloc_new w _)]; rfl
  have HB0 : RowKit.Hid (Below w.heap.size w (w.alloc (.cells #[.bool b, .int .i64 id, .int .i64 at_] 46))) := (Below.refl _ _).alloc (Nat.le_refl _) _
  have hl : w.heap.size < (w.alloc (.cells #[.bool b, .int .i64 id, .int .i64 at_] 46)).heap.size := by simp
  go_enter Try.func7, Try.ntmps7
  go_wp2_with fail
  generalize w.alloc (.cells #[.bool b, .int .i64 id, .int .i64 at_] 46) = w0 at *
  have HX1 := Lib.hid hx1
  have HX2 := Lib.hid hx2
  refine (at_nil id _).mono ?_
  rintro e w1 ⟨rfl, hb1⟩
  have HB1 := Lib.hid (HB0.out.trans (hb1.mono HB0.out.size))
  have y1 := (hb1.cell (p := ⟨w.heap.size, 1, none⟩) hl).trans HX1.out
  have y2 := (hb1.cell (p := ⟨w.heap.size, 2, none⟩) hl).trans HX2.out
  have hl1 : w.heap.size < w1.heap.size := Nat.lt_of_lt_of_le hl hb1.size
  clear hb1 HB0 HX1 HX2 hx1 hx2 hl
  go_wp2_with fail
  refine (set_nil id at_ _).mono ?_
  rintro e w2 ⟨rfl, hb1⟩
  have HB2 := Lib.hid (HB1.out.trans (hb1.mono HB1.out.size))
  have z1 := (hb1.cell (p := ⟨w.heap.size, 1, none⟩) hl1).trans y1
  have z2 := (hb1.cell (p := ⟨w.heap.size, 2, none⟩) hl1).trans y2
  have hl2 : w.heap.size < w2.heap.size := Nat.lt_of_lt_of_le hl1 hb1.size
  clear hb1 HB1 y1 y2 hl1
  go_wp2_with fail
  refine (cancel_nil id _).mono ?_
  rintro e w3 ⟨rfl, hb1⟩
  have HB3 := Lib.hid (HB2.out.trans (hb1.mono HB2.out.size))
  have v2 := (hb1.cell (p := ⟨w.heap.size, 2, none⟩) hl2).trans z2
  clear hb1 HB2 z1 z2 hl2
  go_wp2_with fail
  refine (due_nil at_ _).mono ?_
  rintro e w' ⟨rfl, rfl⟩
  go_wp2_with fail
  refine (tlen_nil _).mono ?_
  rintro e w' ⟨rfl, rfl⟩
  go_wp2_with fail
  refine (awake_any _).mono ?_
  rintro e w4 ⟨rfl, hb1⟩
  have HB4 := Lib.hid (HB3.out.trans (hb1.mono HB3.out.size))
  clear hb1 HB3 v2
  go_wp2_with fail
  go_ret
  exact ⟨rfl, HB4.out⟩
end Go.Proofs.Ytjdanngkmkgidaa
