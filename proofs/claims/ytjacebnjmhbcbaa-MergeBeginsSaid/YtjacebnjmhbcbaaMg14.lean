/- The walk of awake of chapter 22. -/
import Derived.Test.YtjacebnjmhbcbaaMg13
namespace Go.Proofs.Ytjacebnjmhbcbaa
open Go.RowKit
set_option linter.unusedVariables false

theorem awake_rd1 (w : World) : RdE KeyL.cells 2 (w.alloc (.cells #[.int .i64 0, .string ⟨#[97]⟩, .int .i64 2, .string ⟨#[99]⟩] 31)) (some ⟨w.heap.size, 0, none⟩) 2 2 [awA, awC] := new_items w [awA, awC] (by decide)
theorem awake_rd2 (w : World) : RdE KeyL.cells 2 (w.alloc (.cells #[.int .i64 1, .string ⟨#[98]⟩] 31)) (some ⟨w.heap.size, 0, none⟩) 1 1 [awB] := new_items w [awB] (by decide)
theorem awake_rd3 (w : World) : RdE KeyL.cells 2 (w.alloc (.cells #[.int .i64 0, .string ⟨#[97]⟩, .int .i64 1, .string ⟨#[98]⟩] 31)) (some ⟨w.heap.size, 0, none⟩) 2 2 [awA, awB] := new_items w [awA, awB] (by decide)
theorem awsq0 : ∀ s ∈ awS0, 0 ≤ s.seq ∧ s.seq ≤ 1000000 := by intro s hs; simp [awS0, newPS] at hs; subst hs; decide
theorem awsq1 : ∀ s ∈ awS1, 0 ≤ s.seq ∧ s.seq ≤ 1000000 := by intro s hs; simp [awS1, newPS] at hs; rcases hs with rfl | rfl <;> decide
set_option maxRecDepth 100000 in
set_option maxHeartbeats 2000000 in
theorem awake_any (w : World) : Calls Try.prog 10 #[] w fun e w' => e = .returned (.bool true) ∧ Below w.heap.size w w' := by
  go_enter Try.func10, Try.ntmps10
  go_wp2_with fail
  have hb0 : Below w.heap.size w (w.alloc (.cells #[.int .i64 0, .int .i64 0] 3)) := (Below.refl _ _).alloc (Nat.le_refl _) _
  refine (mnew_any (some ⟨w.heap.size, 0, none⟩) 2 2 [0, 0] 3 (w.alloc (.cells #[.int .i64 0, .int .i64 0] 3)) (new_nums w [0, 0] (by decide)) (by omega) (by omega) (by omega) (by omega)).mono ?_
  rintro e w1 ⟨rfl, hM, hb⟩
  have H1 : RowKit.Hid (OwnM w w1 (w.alloc (.cells #[.int .i64 0, .int .i64 0] 3)).heap.size 3 awS0 []) := ⟨hM.base hb0.size, hb0.trans (hb.mono hb0.size)⟩
  clear hM hb hb0
  rw [show (w.alloc (.cells #[.int .i64 0, .int .i64 0] 3)).heap.size = w.heap.size + 1 from by simp] at H1 ⊢
  generalize w.heap.size + 1 = p at H1 ⊢
  have hq1 := fun W => ptr_ne p 0 W
  go_wp2_with fail
  have h2 := H1.out.below ((Below.refl w1.heap.size w1).alloc (Nat.le_refl _) (.cells #[.int .i64 0, .string ⟨#[97]⟩, .int .i64 2, .string ⟨#[99]⟩] 31))
  refine (m_put h2 (awake_rd1 w1) awsq0 aw1).mono ?_
  rintro e w2 ⟨rfl, hM, _⟩
  have H2 := Lib.hid hM
  clear hM H1 h2
  go_wp2_with fail
  refine (m_tell H2.out (by decide) aw2).mono ?_
  rintro e w3 ⟨a3, c3, rfl, ho, hM, _⟩
  have H3 := Lib.hid hM
  clear hM H2 ho
  go_wp2_with fail
  have h4 := H3.out.below ((Below.refl w3.heap.size w3).alloc (Nat.le_refl _) (.cells #[.int .i64 1, .string ⟨#[98]⟩] 31))
  refine (m_put h4 (awake_rd2 w3) awsq1 aw3).mono ?_
  rintro e w4 ⟨rfl, hM, _⟩
  have H4 := Lib.hid hM
  clear hM H3 h4
  go_wp2_with fail
  refine (m_tell H4.out (by decide) aw4).mono ?_
  rintro e w5 ⟨a5, c5, rfl, ho, hM, _⟩
  have H5 := Lib.hid hM
  have HO5 := Lib.hid ho
  clear hM H4 ho
  go_wp2_with fail
  have h6 := H5.out.below ((Below.refl w5.heap.size w5).alloc (Nat.le_refl _) (.cells #[.int .i64 0, .string ⟨#[97]⟩, .int .i64 1, .string ⟨#[98]⟩] 31))
  have hr6 : RdE KeyL.cells 2 (w5.alloc (.cells #[.int .i64 0, .string ⟨#[97]⟩, .int .i64 1, .string ⟨#[98]⟩] 31)) a5 2 c5 [awA, awB] := ownsRow_rdE (enc := KeyL.cells) (fun _ => rfl) rfl (HO5.out.alloc _)
  refine (sameI_any a5 2 c5 _ 2 2 [awA, awB] [awA, awB] _ hr6 (awake_rd3 w5)).mono ?_
  rintro e w6 ⟨rfl, hd⟩
  have H6 := Lib.hid (h6.below (hd.below _))
  clear hd H5 HO5 h6 hr6
  rw [show eqIs [awA, awB] [awA, awB] = true from by simp [eqIs]]
  go_wp2_with fail
  refine (m_wants H6.out aw5).mono ?_
  rintro e w7 ⟨a7, c7, rfl, ho, hM, _⟩
  have H7 := Lib.hid (hM.below ((Below.refl w7.heap.size w7).alloc (Nat.le_refl _) (.cells #[.int .i64 1] 3)))
  have hr7 : Rd (w7.alloc (.cells #[.int .i64 1] 3)) a7 1 c7 (ints [1]) := ownI (ho.alloc _)
  have HR7 := Lib.hid hr7
  clear hr7 ho hM H6
  go_wp2_with fail
  refine (same_any a7 _ 1 1 c7 1 [1] [1] _ HR7.out (new_nums w7 [1] (by decide)) (by omega) (by omega)).mono ?_
  rintro e w8 ⟨rfl, hd⟩
  have H8 := Lib.hid (H7.out.below (hd.below _))
  clear hd H7 HR7
  rw [show sameB [1] [1] = true from by decide]
  go_wp2_with fail
  refine (m_done H8.out aw6).mono ?_
  rintro e w9 ⟨rfl, hM, _⟩
  have H9 := Lib.hid hM
  clear hM H8
  go_wp2_with fail
  go_ret
  exact ⟨rfl, H9.out.2⟩
end Go.Proofs.Ytjacebnjmhbcbaa
