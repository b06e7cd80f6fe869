/- place.May. -/
import Derived.Test.YtjdanngkmkgidaaCfg0
import Derived.Deep.DeepCutAuto
namespace Go.Proofs.Ytjdanngkmkgidaa
open Go.RowKit
set_option linter.unusedVariables false

set_option maxRecDepth 100000 in
theorem within_any (x a b : Int) (w : World) : Calls Try.prog 45 #[.int .i64 x, .int .i64 a, .int .i64 b] w fun e w' => e = .returned (.bool (inB x a b)) ∧ w = w' := by
  by_cases h : a ≤ x
  · by_cases h2 : x ≤ b
    · have e1 : inB x a b = true := by unfold inB; simp; omega
      rw [e1]
      have d1 : decide (a ≤ x) = true := by simpa using h
      have d2 : decide (x ≤ b) = true := by simpa using h2
      go_enter Try.func45, Try.ntmps45
      go_wp2
      go_ret
      exact ⟨rfl, rfl⟩
    · have e1 : inB x a b = false := by unfold inB; simp; omega
      rw [e1]
      have d1 : decide (a ≤ x) = true := by simpa using h
      have d2 : decide (x ≤ b) = false := by simpa using h2
      go_enter Try.func45, Try.ntmps45
      go_wp2
      go_ret
      exact ⟨rfl, rfl⟩
  · have e1 : inB x a b = false := by unfold inB; simp; omega
    rw [e1]
    have d1 : decide (a ≤ x) = false := by simpa using h
    go_enter Try.func45, Try.ntmps45
    go_wp2
    go_ret
    exact ⟨rfl, rfl⟩

set_option maxRecDepth 100000 in
set_option maxHeartbeats 8000000 in
theorem may_any (c : CfgM) (w : World) (hr : CfgOK w c) :
    Calls Try.prog 28 #[c.val] w fun e w' => e = .returned (.bool (mayC c)) ∧ Below w.heap.size w w' := by
  unfold CfgM.val
  have HR := Lib.hid hr
  clear hr
  obtain ⟨m, hm⟩ : ∃ m, mayC c = m := ⟨_, rfl⟩
  rw [hm]
  have HM := Lib.hid hm
  clear hm
  go_enter Try.func28, Try.ntmps28
  go_wp2_with fail
  have HK := Lib.hid (show Blk (w.alloc (.cells #[.slice c.aw c.nw c.cw, .slice c.ac c.nc c.cc, .int .i64 c.wk, .int .i64 c.cp, .int .i64 c.sl, .int .i64 c.ba, .int .i64 c.le, .int .i64 c.he, .int .i64 c.fi, .int .i64 c.ca, .int .i64 c.ji, .int .i64 c.ne] 56)) w.heap.size 56 [.slice c.aw c.nw c.cw, .slice c.ac c.nc c.cc, .int .i64 c.wk, .int .i64 c.cp, .int .i64 c.sl, .int .i64 c.ba, .int .i64 c.le, .int .i64 c.he, .int .i64 c.fi, .int .i64 c.ca, .int .i64 c.ji, .int .i64 c.ne] from heap_alloc_new w _)
  have HB := Lib.hid ((Below.refl _ w).alloc (Nat.le_refl _) (.cells #[.slice c.aw c.nw c.cw, .slice c.ac c.nc c.cc, .int .i64 c.wk, .int .i64 c.cp, .int .i64 c.sl, .int .i64 c.ba, .int .i64 c.le, .int .i64 c.he, .int .i64 c.fi, .int .i64 c.ca, .int .i64 c.ji, .int .i64 c.ne] 56))
  generalize (w.alloc (.cells #[.slice c.aw c.nw c.cw, .slice c.ac c.nc c.cc, .int .i64 c.wk, .int .i64 c.cp, .int .i64 c.sl, .int .i64 c.ba, .int .i64 c.le, .int .i64 c.he, .int .i64 c.fi, .int .i64 c.ca, .int .i64 c.ji, .int .i64 c.ne] 56)) = W at *
  have c0 : W.cell? ⟨w.heap.size, 0, none⟩ = some (.slice c.aw c.nw c.cw) := HK.out.cell 0
  have HT := Lib.hid (lgood_any c.aw c.nw c.cw c.words W (HR.out.rw.below HB.out rfl) HR.out.hw)
  refine HT.out.mono ?_
  rintro e W1 ⟨rfl, hb⟩
  have HB1 := Lib.hid (HB.out.trans (hb.mono HB.out.size))
  have HK1 := Lib.hid (HK.out.below hb HK.out.lt)
  clear hb HB HK
  have c1 : W1.cell? ⟨w.heap.size, 1, none⟩ = some (.slice c.ac c.nc c.cc) := HK1.out.cell 1
  clear HT
  have HE := Lib.hid (good_any c.ac c.nc c.cc c.cuts W1 (HR.out.rk.below HB1.out rfl) HR.out.hk)
  clear HR
  by_cases h1 : goodT c.words = 0
  rotate_left
  · obtain rfl : m = false := by rw [← HM.out]; unfold mayC; rw [decide_eq_false h1]; rfl
    go_wp2_with fail
    go_ret
    exact ⟨rfl, HB1.out⟩
  go_wp2_with fail
  refine HE.out.mono ?_
  rintro e W2 ⟨rfl, hb⟩
  have HB2 := Lib.hid (HB1.out.trans (hb.mono HB1.out.size))
  have HK2 := Lib.hid (HK1.out.below hb HK1.out.lt)
  clear hb HB1 HK1
  have c2 : W2.cell? ⟨w.heap.size, 2, none⟩ = some (.int .i64 c.wk) := HK2.out.cell 2
  have c3 : W2.cell? ⟨w.heap.size, 3, none⟩ = some (.int .i64 c.cp) := HK2.out.cell 3
  have c4 : W2.cell? ⟨w.heap.size, 4, none⟩ = some (.int .i64 c.sl) := HK2.out.cell 4
  have c5 : W2.cell? ⟨w.heap.size, 5, none⟩ = some (.int .i64 c.ba) := HK2.out.cell 5
  have c6 : W2.cell? ⟨w.heap.size, 6, none⟩ = some (.int .i64 c.le) := HK2.out.cell 6
  have c7 : W2.cell? ⟨w.heap.size, 7, none⟩ = some (.int .i64 c.he) := HK2.out.cell 7
  have c8 : W2.cell? ⟨w.heap.size, 8, none⟩ = some (.int .i64 c.fi) := HK2.out.cell 8
  have c9 : W2.cell? ⟨w.heap.size, 9, none⟩ = some (.int .i64 c.ca) := HK2.out.cell 9
  have c10 : W2.cell? ⟨w.heap.size, 10, none⟩ = some (.int .i64 c.ji) := HK2.out.cell 10
  have c11 : W2.cell? ⟨w.heap.size, 11, none⟩ = some (.int .i64 c.ne) := HK2.out.cell 11
  clear HK2 HE
  by_cases h2 : goodE c.cuts = 0
  rotate_left
  · obtain rfl : m = false := by rw [← HM.out]; unfold mayC; rw [decide_eq_false h2]; simp
    go_wp2_with fail
    go_ret
    exact ⟨rfl, HB2.out⟩
  have HM2 := Lib.hid (show (nodesC c && sizesC c && timesC c) = m from by rw [← HM.out]; unfold mayC; rw [decide_eq_true h1, decide_eq_true h2]; simp)
  rw [h2]
  clear HM h1 h2
  obtain ⟨pm, hpm⟩ : ∃ p, (if c.wk < 3 then c.wk else 3) = p := ⟨_, rfl⟩
  have HPM := Lib.hid (show min 3 c.wk = pm from by rw [← hpm]; split <;> omega)
  go_upto_region 3 with fail
  go_cut [3] from 16 to 26 (fun s wx => s = .bool (nodesC c) ∧ W2 = wx)
  case first =>
    go_wp2_with fail
    refine (within_any (c.wk) (1) (5) W2).mono ?_
    rintro e w' ⟨rfl, rfl⟩
    rcases Bool.eq_false_or_eq_true (inB (c.wk) (1) (5)) with hb0 | hb0
    rotate_left
    · rw [hb0]
      have hv := Lib.hid (show nodesC c = false from by unfold nodesC; simp [hb0])
      clear hb0
      go_wp2_with fail
      go_meet
      exact ⟨by rw [hv.out], rfl⟩
    rw [hb0]
    go_wp2_with fail
    refine (within_any (c.cp) (1) (pm) W2).mono ?_
    rintro e w' ⟨rfl, rfl⟩
    have hv := Lib.hid (show inB (c.cp) (1) (pm) = nodesC c from by unfold nodesC; rw [HPM.out]; simp [hb0])
    clear hb0
    generalize inB (c.cp) (1) (pm) = q at *
    go_wp2_with fail
    go_meet
    exact ⟨by rw [hv.out], rfl⟩
  case rest =>
    obtain ⟨rfl, rfl⟩ := hcut
    go_upto_region 4 with fail
    go_cut [4] from 27 to 39 (fun s wx => s = .bool (sizesC c) ∧ W2 = wx)
    case first =>
      go_wp2_with fail
      refine (within_any (c.sl) (1) (4) W2).mono ?_
      rintro e w' ⟨rfl, rfl⟩
      rcases Bool.eq_false_or_eq_true (inB (c.sl) (1) (4)) with hb0 | hb0
      rotate_left
      · rw [hb0]
        have hv := Lib.hid (show sizesC c = false from by unfold sizesC; simp [hb0])
        clear hb0
        go_wp2_with fail
        go_meet
        exact ⟨by rw [hv.out], rfl⟩
      rw [hb0]
      go_wp2_with fail
      refine (within_any (c.ba) (1) (5) W2).mono ?_
      rintro e w' ⟨rfl, rfl⟩
      rcases Bool.eq_false_or_eq_true (inB (c.ba) (1) (5)) with hb1 | hb1
      rotate_left
      · rw [hb1]
        have hv := Lib.hid (show sizesC c = false from by unfold sizesC; simp [hb0, hb1])
        clear hb0 hb1
        go_wp2_with fail
        go_meet
        exact ⟨by rw [hv.out], rfl⟩
      rw [hb1]
      go_wp2_with fail
      refine (within_any (c.ne) (8) (64) W2).mono ?_
      rintro e w' ⟨rfl, rfl⟩
      have hv := Lib.hid (show inB (c.ne) (8) (64) = sizesC c from by unfold sizesC; simp [hb0, hb1])
      clear hb0 hb1
      generalize inB (c.ne) (8) (64) = q at *
      go_wp2_with fail
      go_meet
      exact ⟨by rw [hv.out], rfl⟩
    case rest =>
      obtain ⟨rfl, rfl⟩ := hcut
      go_upto_region 5 with fail
      go_cut [5] from 40 to 64 (fun s wx => s = .bool (timesC c) ∧ W2 = wx)
      case first =>
        go_wp2_with fail
        refine (within_any (c.le) (1) (1000) W2).mono ?_
        rintro e w' ⟨rfl, rfl⟩
        rcases Bool.eq_false_or_eq_true (inB (c.le) (1) (1000)) with hb0 | hb0
        rotate_left
        · rw [hb0]
          have hv := Lib.hid (show timesC c = false from by unfold timesC; simp [hb0])
          clear hb0
          go_wp2_with fail
          go_meet
          exact ⟨by rw [hv.out], rfl⟩
        rw [hb0]
        go_wp2_with fail
        refine (within_any (c.he) (1) (1000) W2).mono ?_
        rintro e w' ⟨rfl, rfl⟩
        rcases Bool.eq_false_or_eq_true (inB (c.he) (1) (1000)) with hb1 | hb1
        rotate_left
        · rw [hb1]
          have hv := Lib.hid (show timesC c = false from by unfold timesC; simp [hb0, hb1])
          clear hb0 hb1
          go_wp2_with fail
          go_meet
          exact ⟨by rw [hv.out], rfl⟩
        rw [hb1]
        go_wp2_with fail
        refine (within_any (c.fi) (1) (10) W2).mono ?_
        rintro e w' ⟨rfl, rfl⟩
        rcases Bool.eq_false_or_eq_true (inB (c.fi) (1) (10)) with hb2 | hb2
        rotate_left
        · rw [hb2]
          have hv := Lib.hid (show timesC c = false from by unfold timesC; simp [hb0, hb1, hb2])
          clear hb0 hb1 hb2
          go_wp2_with fail
          go_meet
          exact ⟨by rw [hv.out], rfl⟩
        rw [hb2]
        go_wp2_with fail
        refine (within_any (c.ca) (c.fi) (50) W2).mono ?_
        rintro e w' ⟨rfl, rfl⟩
        rcases Bool.eq_false_or_eq_true (inB (c.ca) (c.fi) (50)) with hb3 | hb3
        rotate_left
        · rw [hb3]
          have hv := Lib.hid (show timesC c = false from by unfold timesC; simp [hb0, hb1, hb2, hb3])
          clear hb0 hb1 hb2 hb3
          go_wp2_with fail
          go_meet
          exact ⟨by rw [hv.out], rfl⟩
        rw [hb3]
        go_wp2_with fail
        refine (within_any (c.ji) (0) (10) W2).mono ?_
        rintro e w' ⟨rfl, rfl⟩
        have hv := Lib.hid (show inB (c.ji) (0) (10) = timesC c from by unfold timesC; simp [hb0, hb1, hb2, hb3])
        clear hb0 hb1 hb2 hb3
        generalize inB (c.ji) (0) (10) = q at *
        go_wp2_with fail
        go_meet
        exact ⟨by rw [hv.out], rfl⟩
      case rest =>
        obtain ⟨rfl, rfl⟩ := hcut
        generalize nodesC c = a1 at *
        generalize sizesC c = a2 at *
        generalize timesC c = a3 at *
        have HM3 := HM2.out
        clear HM2
        cases a1 <;> cases a2 <;> cases a3 <;> (simp at HM3; subst HM3; go_wp2_with fail; go_ret; exact ⟨rfl, HB2.out⟩)
end Go.Proofs.Ytjdanngkmkgidaa
