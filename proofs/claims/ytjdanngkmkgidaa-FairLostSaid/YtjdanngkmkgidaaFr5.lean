/- small, awake, great, Low: chapter 27. -/
import Derived.Test.YtjdanngkmkgidaaFr4
namespace Go.Proofs.Ytjdanngkmkgidaa
open Go.RowKit
set_option linter.unusedVariables false

theorem low_any (x n : Int) (w : World) (h1 : 1 ≤ n) (h2 : n ≤ 9223372036854775807) :
    Calls Try.prog 14 #[.int .i64 x, .int .i64 n] w fun e w' => e = .returned (.int .i64 (lowI x n)) ∧ w = w' := by
  go_enter Try.func14, Try.ntmps14
  go_wp2
  go_ret
  exact ⟨ret_int (low_eq x n h1 h2), rfl⟩
def smallC : CfgM := ⟨none, 0, 0, none, 0, 0, [], [], 1, 1, 1, 2, 5, 9, 2, 3, 0, 8⟩
theorem small_ok (w : World) : CfgOK w smallC :=
  ⟨⟨rfl, Nat.le_refl _, by unfold maxLen; decide, fun _ => rfl, fun i hi => by simp [smallC] at hi⟩, ⟨rfl, Nat.le_refl _, by unfold maxLen; decide, fun _ => rfl, fun i x hx => by simp [smallC] at hx⟩, by simp [smallC], by simp [smallC]⟩
theorem results_cell1 {fn : Func} {p : Tmp} {ty : TypeId} (h : fn.results = #[.cell p ty]) (tmps : Array Value) (P : Program) (w : World) :
    (results fn tmps).run P w = ((asAddr (tmps.getD p undef)).run P w).andThen fun a w₁ => (loadVar ty a).run P w₁ := by
  simp only [results, h]
  simp [Sem.run_bind, Result.andThen]
set_option maxRecDepth 100000 in
theorem small_any (w : World) : Calls Try.prog 46 #[] w fun e w' => e = .returned smallC.val ∧ Below w.heap.size w w' := by
  go_enter Try.func46, Try.ntmps46
  go_wp2_with fail
  (try simp only [Exit.inBlock, Exit.then])
  refine bodyPost_ret (v := smallC.val) ?_ rfl ⟨rfl, (Below.refl _ w).alloc (Nat.le_refl _) _⟩
  rw [results_cell1 rfl]
  go_simp
  rfl
theorem small_may : mayC smallC = true := by decide
theorem small_bound : boundC smallC 1 = 28 := by decide
theorem small_good1 : goodC smallC [1] = true := by decide
theorem small_good2 : goodC smallC [2] = false := by decide
def rec0 (k n : Int) : RecM := ⟨k, n, 0, 0, ⟨#[]⟩, 0, 0, 0, 0, none, 0, 0, -1, none, 0, 0, [], []⟩
def recs0 : List RecM := [rec0 4 0, rec0 4 1, rec0 3 0]
theorem small_win3 : WindowB smallC recs0 0 3 [1] = true := by decide
theorem small_win2 : WindowB smallC recs0 0 2 [1] = false := by decide
theorem rec0_in (k n : Int) (w : World) : RecIn w (rec0 k n) :=
  ⟨⟨rfl, Nat.le_refl _, Nat.zero_le _, fun _ => rfl, fun i x hx => by simp [rec0] at hx⟩, ⟨rfl, Nat.le_refl _, Nat.zero_le _, fun _ => rfl, fun i hi => by simp [rec0] at hi⟩, by simp [rec0], by simp [rec0], show wf64 (-1) from wf64_of (by decide) (by decide)⟩
theorem one_ints (w : World) (x : Int) : Rd (w.alloc (.cells #[.int .i64 x] 3)) (some ⟨w.heap.size, 0, none⟩) 1 1 (ints [x]) :=
  (show Blk (w.alloc (.cells #[.int .i64 x] 3)) w.heap.size 3 [.int .i64 x] from heap_alloc_new w _).rd 1 1 (ints [x]) rfl (Nat.le_refl _) (by unfold maxLen; decide) (fun i hi => rfl)

set_option maxRecDepth 100000 in
set_option maxHeartbeats 4000000 in
theorem awake_any (w : World) : Calls Try.prog 29 #[] w fun e w' => e = .returned (.bool true) ∧ Below w.heap.size w w' := by
  go_enter Try.func29, Try.ntmps29
  go_wp2_with fail
  have HK0 := Lib.hid (show Blk (w.alloc (.cells #[.int .i64 4, .int .i64 0, .int .i64 0, .int .i64 0, .string ⟨#[]⟩, .int .i64 0, .int .i64 0, .int .i64 0, .int .i64 0, .slice none 0 0, .int .i64 (-1), .slice none 0 0, .int .i64 4, .int .i64 1, .int .i64 0, .int .i64 0, .string ⟨#[]⟩, .int .i64 0, .int .i64 0, .int .i64 0, .int .i64 0, .slice none 0 0, .int .i64 (-1), .slice none 0 0, .int .i64 3, .int .i64 0, .int .i64 0, .int .i64 0, .string ⟨#[]⟩, .int .i64 0, .int .i64 0, .int .i64 0, .int .i64 0, .slice none 0 0, .int .i64 (-1), .slice none 0 0] 70)) w.heap.size 70 (recs0.flatMap RecM.cells) from heap_alloc_new w _)
  have HZ0 := Lib.hid ((Below.refl _ w).alloc (Nat.le_refl _) (.cells #[.int .i64 4, .int .i64 0, .int .i64 0, .int .i64 0, .string ⟨#[]⟩, .int .i64 0, .int .i64 0, .int .i64 0, .int .i64 0, .slice none 0 0, .int .i64 (-1), .slice none 0 0, .int .i64 4, .int .i64 1, .int .i64 0, .int .i64 0, .string ⟨#[]⟩, .int .i64 0, .int .i64 0, .int .i64 0, .int .i64 0, .slice none 0 0, .int .i64 (-1), .slice none 0 0, .int .i64 3, .int .i64 0, .int .i64 0, .int .i64 0, .string ⟨#[]⟩, .int .i64 0, .int .i64 0, .int .i64 0, .int .i64 0, .slice none 0 0, .int .i64 (-1), .slice none 0 0] 70))
  generalize (w.alloc (.cells #[.int .i64 4, .int .i64 0, .int .i64 0, .int .i64 0, .string ⟨#[]⟩, .int .i64 0, .int .i64 0, .int .i64 0, .int .i64 0, .slice none 0 0, .int .i64 (-1), .slice none 0 0, .int .i64 4, .int .i64 1, .int .i64 0, .int .i64 0, .string ⟨#[]⟩, .int .i64 0, .int .i64 0, .int .i64 0, .int .i64 0, .slice none 0 0, .int .i64 (-1), .slice none 0 0, .int .i64 3, .int .i64 0, .int .i64 0, .int .i64 0, .string ⟨#[]⟩, .int .i64 0, .int .i64 0, .int .i64 0, .int .i64 0, .slice none 0 0, .int .i64 (-1), .slice none 0 0] 70)) = W0 at *
  have HB0 := Lib.hid (Below.refl W0.heap.size W0)
  have HR := Lib.hid (show Recs W0 (some ⟨w.heap.size, 0, none⟩) 3 3 recs0 from ⟨Blk.rdE (sp := []) RecM.cells_len (by rw [List.append_nil]; exact HK0.out) 3 (Nat.le_refl _) (by unfold maxLen; decide), fun r hr => by
    simp only [recs0, List.mem_cons, List.not_mem_nil, or_false] at hr
    rcases hr with rfl | rfl | rfl <;> exact rec0_in _ _ _⟩)
  clear HK0
  go_wp2_with fail
  refine (small_any _).mono ?_
  rintro e v1 ⟨rfl, hb⟩
  have HB1 := Lib.hid (HB0.out.trans (hb.mono HB0.out.size))
  clear hb HB0
  have HS := Lib.hid (fun n w => bound_any smallC n w (small_ok w))
  go_wp2_with fail
  refine (HS.out 1 _).mono ?_
  rintro e v2 ⟨rfl, hb⟩
  have HB2 := Lib.hid (HB1.out.trans (hb.mono HB1.out.size))
  clear hb HB1
  rw [small_bound]
  clear HS
  go_wp2_with fail
  refine (small_any _).mono ?_
  rintro e v3 ⟨rfl, hb⟩
  have HB3 := Lib.hid (HB2.out.trans (hb.mono HB2.out.size))
  clear hb HB2
  have HX := Lib.hid (one_ints v3 1)
  have HA := Lib.hid ((Below.refl _ v3).alloc (Nat.le_refl _) (.cells #[.int .i64 1] 3))
  go_wp2_with fail
  generalize v3.alloc (.cells #[.int .i64 1] 3) = va3 at *
  have HB3a := Lib.hid (HB3.out.trans (HA.out.mono HB3.out.size))
  clear HA HB3
  refine (fgood_any smallC _ _ _ [1] _ (small_ok _) HX.out).mono ?_
  rintro e v4 ⟨rfl, hb⟩
  rw [small_good1]
  have HB4 := Lib.hid (HB3a.out.trans (hb.mono HB3a.out.size))
  clear hb HX HB3a
  go_wp2_with fail
  refine (small_any _).mono ?_
  rintro e v5 ⟨rfl, hb⟩
  have HB5 := Lib.hid (HB4.out.trans (hb.mono HB4.out.size))
  clear hb HB4
  have HX := Lib.hid (one_ints v5 2)
  have HA := Lib.hid ((Below.refl _ v5).alloc (Nat.le_refl _) (.cells #[.int .i64 2] 3))
  go_wp2_with fail
  generalize v5.alloc (.cells #[.int .i64 2] 3) = va5 at *
  have HB5a := Lib.hid (HB5.out.trans (HA.out.mono HB5.out.size))
  clear HA HB5
  refine (fgood_any smallC _ _ _ [2] _ (small_ok _) HX.out).mono ?_
  rintro e v6 ⟨rfl, hb⟩
  rw [small_good2]
  have HB6 := Lib.hid (HB5a.out.trans (hb.mono HB5a.out.size))
  clear hb HX HB5a
  go_wp2_with fail
  refine (small_any _).mono ?_
  rintro e v7 ⟨rfl, hb⟩
  have HB7 := Lib.hid (HB6.out.trans (hb.mono HB6.out.size))
  clear hb HB6
  have HX := Lib.hid (one_ints v7 1)
  have HA := Lib.hid ((Below.refl _ v7).alloc (Nat.le_refl _) (.cells #[.int .i64 1] 3))
  go_wp2_with fail
  generalize v7.alloc (.cells #[.int .i64 1] 3) = va7 at *
  have HB7a := Lib.hid (HB7.out.trans (HA.out.mono HB7.out.size))
  clear HA HB7
  refine (Window_any smallC _ _ _ recs0 0 3 _ _ _ [1] _ (small_ok _) (HR.out.below (Hid.out HB7a) rfl) HX.out (by decide) (by decide) (by decide) (by decide)).mono ?_
  rintro e v8 ⟨rfl, hb⟩
  rw [small_win3]
  have HB8 := Lib.hid (HB7a.out.trans (hb.mono HB7a.out.size))
  clear hb HX HB7a
  go_wp2_with fail
  refine (small_any _).mono ?_
  rintro e v9 ⟨rfl, hb⟩
  have HB9 := Lib.hid (HB8.out.trans (hb.mono HB8.out.size))
  clear hb HB8
  have HX := Lib.hid (one_ints v9 1)
  have HA := Lib.hid ((Below.refl _ v9).alloc (Nat.le_refl _) (.cells #[.int .i64 1] 3))
  go_wp2_with fail
  generalize v9.alloc (.cells #[.int .i64 1] 3) = va9 at *
  have HB9a := Lib.hid (HB9.out.trans (HA.out.mono HB9.out.size))
  clear HA HB9
  refine (Window_any smallC _ _ _ recs0 0 2 _ _ _ [1] _ (small_ok _) (HR.out.below (Hid.out HB9a) rfl) HX.out (by decide) (by decide) (by decide) (by decide)).mono ?_
  rintro e v10 ⟨rfl, hb⟩
  rw [small_win2]
  have HB10 := Lib.hid (HB9a.out.trans (hb.mono HB9a.out.size))
  clear hb HX HB9a
  go_wp2_with fail
  go_ret
  exact ⟨rfl, HZ0.out.trans (HB10.out.mono HZ0.out.size)⟩
end Go.Proofs.Ytjdanngkmkgidaa
