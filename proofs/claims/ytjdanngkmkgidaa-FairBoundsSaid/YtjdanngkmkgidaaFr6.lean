/- The walk of the statement FairBounds. -/
import Derived.Test.YtjdanngkmkgidaaFr5
import Derived.Deep.RegionHeld3
namespace Go.Proofs.Ytjdanngkmkgidaa
open Go.RowKit
set_option linter.unusedVariables false

set_option maxRecDepth 100000 in
set_option maxHeartbeats 1000000 in
theorem bounds_law (c : CfgM) (n : Int) (w : World) (hr : CfgOK w c) :
    Calls Try.prog 8 #[c.val, .int .i64 n] w fun e w' => e = .returned (.bool true) ∧ Below w.heap.size w w' := by
  have HR := Lib.hid hr
  have HGC := Lib.hid (fun w h => greatC_any c w h)
  have HMA := Lib.hid (fun w h => may_any c w h)
  have HBO := Lib.hid (fun n w h => bound_any c n w h)
  have HMO := Lib.hid (fun w => most_any c w)
  have HSA := Lib.hid (fun w h => shards_any c w h)
  clear hr
  unfold CfgM.val at HGC HMA HBO HMO HSA ⊢
  go_enter Try.func8, Try.ntmps8
  go_upto_region 1 with fail
  have HK := Lib.hid (show CfgB (w.alloc (.cells #[.slice c.aw c.nw c.cw, .slice c.ac c.nc c.cc, .int .i64 c.wk, .int .i64 c.cp, .int .i64 c.sl, .int .i64 c.ba, .int .i64 c.le, .int .i64 c.he, .int .i64 c.fi, .int .i64 c.ca, .int .i64 c.ji, .int .i64 c.ne] 56)) w.heap.size c from heap_alloc_new w _)
  have HB := Lib.hid ((Below.refl _ w).alloc (Nat.le_refl _) (.cells #[.slice c.aw c.nw c.cw, .slice c.ac c.nc c.cc, .int .i64 c.wk, .int .i64 c.cp, .int .i64 c.sl, .int .i64 c.ba, .int .i64 c.le, .int .i64 c.he, .int .i64 c.fi, .int .i64 c.ca, .int .i64 c.ji, .int .i64 c.ne] 56))
  generalize (w.alloc (.cells #[.slice c.aw c.nw c.cw, .slice c.ac c.nc c.cc, .int .i64 c.wk, .int .i64 c.cp, .int .i64 c.sl, .int .i64 c.ba, .int .i64 c.le, .int .i64 c.he, .int .i64 c.fi, .int .i64 c.ca, .int .i64 c.ji, .int .i64 c.ne] 56)) = W at *
  have c0 : W.cell? ⟨w.heap.size, 0, none⟩ = some (.slice c.aw c.nw c.cw) := HK.out.cell 0
  have c1 : W.cell? ⟨w.heap.size, 1, none⟩ = some (.slice c.ac c.nc c.cc) := HK.out.cell 1
  have c2 : W.cell? ⟨w.heap.size, 2, none⟩ = some (.int .i64 c.wk) := HK.out.cell 2
  have c3 : W.cell? ⟨w.heap.size, 3, none⟩ = some (.int .i64 c.cp) := HK.out.cell 3
  have c4 : W.cell? ⟨w.heap.size, 4, none⟩ = some (.int .i64 c.sl) := HK.out.cell 4
  have c5 : W.cell? ⟨w.heap.size, 5, none⟩ = some (.int .i64 c.ba) := HK.out.cell 5
  have c6 : W.cell? ⟨w.heap.size, 6, none⟩ = some (.int .i64 c.le) := HK.out.cell 6
  have c7 : W.cell? ⟨w.heap.size, 7, none⟩ = some (.int .i64 c.he) := HK.out.cell 7
  have c8 : W.cell? ⟨w.heap.size, 8, none⟩ = some (.int .i64 c.fi) := HK.out.cell 8
  have c9 : W.cell? ⟨w.heap.size, 9, none⟩ = some (.int .i64 c.ca) := HK.out.cell 9
  have c10 : W.cell? ⟨w.heap.size, 10, none⟩ = some (.int .i64 c.ji) := HK.out.cell 10
  have c11 : W.cell? ⟨w.heap.size, 11, none⟩ = some (.int .i64 c.ne) := HK.out.cell 11
  go_wp2_with fail
  refine (HGC.out W (HR.out.below HB.out rfl)).mono ?_
  rintro e W1 ⟨rfl, hb⟩
  have HB1 := Lib.hid (HB.out.trans (hb.mono HB.out.size))
  have HK1 := Lib.hid (show CfgB W1 w.heap.size c from Blk.below HK.out hb (Blk.lt HK.out))
  clear hb HB HK
  clear c0 c1 c2 c3 c4 c5 c6 c7 c8 c9 c10 c11 HGC
  cases hgc : greatC c
  case true =>
    clear hgc HMA HBO HMO HSA
    go_wp2_with fail
    refine (awake_any _).mono ?_
    rintro e v9 ⟨rfl, hb⟩
    have HB9 := Lib.hid (HB1.out.trans (hb.mono HB1.out.size))
    clear hb
    go_wp2_with fail
    go_ret
    exact ⟨rfl, HB9.out⟩
  have c0 : W1.cell? ⟨w.heap.size, 0, none⟩ = some (.slice c.aw c.nw c.cw) := HK1.out.cell 0
  have c1 : W1.cell? ⟨w.heap.size, 1, none⟩ = some (.slice c.ac c.nc c.cc) := HK1.out.cell 1
  have c2 : W1.cell? ⟨w.heap.size, 2, none⟩ = some (.int .i64 c.wk) := HK1.out.cell 2
  have c3 : W1.cell? ⟨w.heap.size, 3, none⟩ = some (.int .i64 c.cp) := HK1.out.cell 3
  have c4 : W1.cell? ⟨w.heap.size, 4, none⟩ = some (.int .i64 c.sl) := HK1.out.cell 4
  have c5 : W1.cell? ⟨w.heap.size, 5, none⟩ = some (.int .i64 c.ba) := HK1.out.cell 5
  have c6 : W1.cell? ⟨w.heap.size, 6, none⟩ = some (.int .i64 c.le) := HK1.out.cell 6
  have c7 : W1.cell? ⟨w.heap.size, 7, none⟩ = some (.int .i64 c.he) := HK1.out.cell 7
  have c8 : W1.cell? ⟨w.heap.size, 8, none⟩ = some (.int .i64 c.fi) := HK1.out.cell 8
  have c9 : W1.cell? ⟨w.heap.size, 9, none⟩ = some (.int .i64 c.ca) := HK1.out.cell 9
  have c10 : W1.cell? ⟨w.heap.size, 10, none⟩ = some (.int .i64 c.ji) := HK1.out.cell 10
  have c11 : W1.cell? ⟨w.heap.size, 11, none⟩ = some (.int .i64 c.ne) := HK1.out.cell 11
  clear hgc
  go_wp2_with fail
  refine (HMA.out W1 (HR.out.below HB1.out rfl)).mono ?_
  rintro e W2 ⟨rfl, hb⟩
  have HB2 := Lib.hid (HB1.out.trans (hb.mono HB1.out.size))
  have HK2 := Lib.hid (show CfgB W2 w.heap.size c from Blk.below HK1.out hb (Blk.lt HK1.out))
  clear hb HB1 HK1
  clear c0 c1 c2 c3 c4 c5 c6 c7 c8 c9 c10 c11 HMA
  cases hm : mayC c
  case false =>
    clear hm HBO HMO HSA
    go_wp2_with fail
    refine (awake_any _).mono ?_
    rintro e v9 ⟨rfl, hb⟩
    have HB9 := Lib.hid (HB2.out.trans (hb.mono HB2.out.size))
    clear hb
    go_wp2_with fail
    go_ret
    exact ⟨rfl, HB9.out⟩
  have hlw := lowI_bd n 9 (by decide)
  have hE := eachC_bd hm
  have hbd := fun k (h1 : 1 ≤ k) (h2 : k ≤ 10) => show boundC c k = 4 + (k + 1) * eachC c from by unfold boundC; rw [if_pos ⟨hm, h1, h2⟩]
  have hb0 : boundC c 0 = 0 := by unfold boundC; rw [if_neg (by omega)]
  have hb11 : boundC c 11 = 0 := by unfold boundC; rw [if_neg (by omega)]
  have hb3 := shardsC_bd c
  have hb4 : 0 ≤ mostC c + 2 ∧ mostC c + 2 ≤ 2002 := by have := clipI_bd c.ca; have := clipI_bd c.ji; unfold mostC; omega
  have hea : eachC c = c.cp * (mostC c + 2) + c.sl * shardsC c + 6 := rfl
  clear hm
  obtain ⟨k, hk⟩ : ∃ k, lowI n 9 = k := ⟨_, rfl⟩
  have HLW := Lib.hid (fun w => low_any n 9 w (by decide) (by decide))
  rw [hk] at hlw HLW
  obtain ⟨hk0, hk9⟩ := hlw
  obtain ⟨mo, hmo⟩ : ∃ x, mostC c = x := ⟨_, rfl⟩
  obtain ⟨sh, hsh⟩ : ∃ x, shardsC c = x := ⟨_, rfl⟩
  obtain ⟨E, hEE⟩ : ∃ x, eachC c = x := ⟨_, rfl⟩
  rw [hmo] at hE hb4 hea HMO
  rw [hsh] at hE hb3 hea HSA
  rw [hEE] at hbd hea
  obtain ⟨p1, hp1⟩ : ∃ x, c.cp * (mo + 2) = x := ⟨_, rfl⟩
  obtain ⟨p2, hp2⟩ : ∃ x, c.sl * sh = x := ⟨_, rfl⟩
  rw [hp1, hp2] at hE hea
  obtain ⟨he1, he2, he3, he4⟩ := hE
  obtain ⟨m1, hm1⟩ : ∃ m, 1 + k = m := ⟨_, rfl⟩
  obtain ⟨m2, hm2⟩ : ∃ m, m1 + 1 = m := ⟨_, rfl⟩
  have hbx := hbd m1 (by omega) (by omega)
  have hby := hbd m2 (by omega) (by omega)
  rw [hm2] at hbx
  obtain ⟨p3, hp3⟩ : ∃ x, m2 * E = x := ⟨_, rfl⟩
  have q3 := mul_bd (a := m2) (b := E) (A := 11) (B := 10106) (by omega) (by omega) (by omega) (by omega)
  have q4 : (m2 + 1) * E = p3 + E := by rw [← hp3, Int.add_mul m2 1 E, Int.one_mul]
  rw [hp3] at hbx q3
  rw [q4] at hby
  obtain ⟨q5, q6⟩ := q3
  have HB_x := Lib.hid (HBO.out m1)
  have HB_y := Lib.hid (HBO.out m2)
  have HB_0 := Lib.hid (HBO.out 0)
  have HB_1 := Lib.hid (HBO.out 11)
  rw [hbx] at HB_x
  rw [hby] at HB_y
  rw [hb0] at HB_0
  rw [hb11] at HB_1
  have HE1 := Lib.hid hea
  have HP3 := Lib.hid hp3
  have HM1 := Lib.hid hm1
  have HM2 := Lib.hid hm2
  have hmle : m1 ≤ 9 := by omega
  have hmge : 1 ≤ m1 := by omega
  clear hk hmo hsh hEE hbd hbx hby hb0 hb11 q4 HBO hea hp3 hm1 hm2
  go_wp2_with fail
  refine (HLW.out W2).mono ?_
  rintro e w' ⟨rfl, rfl⟩
  have w1 : IntKind.i64.wrap (1 + k) = m1 := by rw [wr_in _ (by omega) (by omega)]; exact HM1.out
  have w2 : IntKind.i64.wrap (m1 + 1) = m2 := by rw [wr_in _ (by have := HM1.out; omega) (by have := HM1.out; omega)]; exact HM2.out
  clear HLW
  go_upto_region 4 with fail
  have HLT := Lib.hid (Blk.lt HK2.out)
  have HGB : RowKit.Hid (Below W2.heap.size W2 W2.drew) := below_drewN (Below.refl _ _) 1
  go_region_held3 (fun w' => w'.cell? ⟨w.heap.size, 0, none⟩ = some (.slice c.aw c.nw c.cw) ∧ w'.cell? ⟨w.heap.size, 1, none⟩ = some (.slice c.ac c.nc c.cc) ∧ w'.cell? ⟨w.heap.size, 2, none⟩ = some (.int .i64 c.wk) ∧ w'.cell? ⟨w.heap.size, 3, none⟩ = some (.int .i64 c.cp) ∧ w'.cell? ⟨w.heap.size, 4, none⟩ = some (.int .i64 c.sl) ∧ w'.cell? ⟨w.heap.size, 5, none⟩ = some (.int .i64 c.ba) ∧ w'.cell? ⟨w.heap.size, 6, none⟩ = some (.int .i64 c.le) ∧ w'.cell? ⟨w.heap.size, 7, none⟩ = some (.int .i64 c.he) ∧ w'.cell? ⟨w.heap.size, 8, none⟩ = some (.int .i64 c.fi) ∧ w'.cell? ⟨w.heap.size, 9, none⟩ = some (.int .i64 c.ca) ∧ w'.cell? ⟨w.heap.size, 10, none⟩ = some (.int .i64 c.ji) ∧ w'.cell? ⟨w.heap.size, 11, none⟩ = some (.int .i64 c.ne)) (exact ⟨(Blk.below HK2.out HGB.out HLT.out).cell 0, (Blk.below HK2.out HGB.out HLT.out).cell 1, (Blk.below HK2.out HGB.out HLT.out).cell 2, (Blk.below HK2.out HGB.out HLT.out).cell 3, (Blk.below HK2.out HGB.out HLT.out).cell 4, (Blk.below HK2.out HGB.out HLT.out).cell 5, (Blk.below HK2.out HGB.out HLT.out).cell 6, (Blk.below HK2.out HGB.out HLT.out).cell 7, (Blk.below HK2.out HGB.out HLT.out).cell 8, (Blk.below HK2.out HGB.out HLT.out).cell 9, (Blk.below HK2.out HGB.out HLT.out).cell 10, (Blk.below HK2.out HGB.out HLT.out).cell 11⟩) (first | (go_at_call_of 30 (Value.int .i64 m1); refine (HB_x.out _ (HR.out.below (HB2.out.trans (HGB.out.mono HB2.out.size)) rfl)).mono ?_; rintro e u ⟨rfl, hb⟩; have HSN := Lib.hid (HGB.out.trans (hb.mono HGB.out.size)); clear HGB; have HGB := HSN; clear HSN; clear hb) | (go_at_call_of 30 (Value.int .i64 m2); refine (HB_y.out _ (HR.out.below (HB2.out.trans (HGB.out.mono HB2.out.size)) rfl)).mono ?_; rintro e u ⟨rfl, hb⟩; have HSN := Lib.hid (HGB.out.trans (hb.mono HGB.out.size)); clear HGB; have HGB := HSN; clear HSN; clear hb))
  all_goals
    have HB3 := Lib.hid (HB2.out.trans (HGB.out.mono HB2.out.size))
    have HK3 := Lib.hid (show CfgB u w.heap.size c from Blk.below HK2.out HGB.out (Blk.lt HK2.out))
    clear HGB HB2 HK2 HLT HB_x HB_y
    rename_i hheld
    clear hheld
    have HLT := Lib.hid (Blk.lt HK3.out)
    generalize u = W3 at *
    have HGB : RowKit.Hid (Below W3.heap.size W3 W3.drew) := below_drewN (Below.refl _ _) 1
    have w3 : IntKind.i64.wrap (mo + 2) = mo + 2 := wr_in _ (by omega) (by omega)
    have w4 : IntKind.i64.wrap p1 = p1 := wr_in _ (by omega) (by omega)
    have w5 : IntKind.i64.wrap p2 = p2 := wr_in _ (by omega) (by omega)
    have w6 : IntKind.i64.wrap (p1 + p2) = p1 + p2 := wr_in _ (by omega) (by omega)
    have w7 : IntKind.i64.wrap (p1 + p2 + 6) = E := by rw [wr_in _ (by omega) (by omega)]; exact HE1.out.symm
    go_upto_region 5 with fail
    go_region_held3 (fun w' => w'.cell? ⟨w.heap.size, 0, none⟩ = some (.slice c.aw c.nw c.cw) ∧ w'.cell? ⟨w.heap.size, 1, none⟩ = some (.slice c.ac c.nc c.cc) ∧ w'.cell? ⟨w.heap.size, 2, none⟩ = some (.int .i64 c.wk) ∧ w'.cell? ⟨w.heap.size, 3, none⟩ = some (.int .i64 c.cp) ∧ w'.cell? ⟨w.heap.size, 4, none⟩ = some (.int .i64 c.sl) ∧ w'.cell? ⟨w.heap.size, 5, none⟩ = some (.int .i64 c.ba) ∧ w'.cell? ⟨w.heap.size, 6, none⟩ = some (.int .i64 c.le) ∧ w'.cell? ⟨w.heap.size, 7, none⟩ = some (.int .i64 c.he) ∧ w'.cell? ⟨w.heap.size, 8, none⟩ = some (.int .i64 c.fi) ∧ w'.cell? ⟨w.heap.size, 9, none⟩ = some (.int .i64 c.ca) ∧ w'.cell? ⟨w.heap.size, 10, none⟩ = some (.int .i64 c.ji) ∧ w'.cell? ⟨w.heap.size, 11, none⟩ = some (.int .i64 c.ne)) (exact ⟨(Blk.below HK3.out HGB.out HLT.out).cell 0, (Blk.below HK3.out HGB.out HLT.out).cell 1, (Blk.below HK3.out HGB.out HLT.out).cell 2, (Blk.below HK3.out HGB.out HLT.out).cell 3, (Blk.below HK3.out HGB.out HLT.out).cell 4, (Blk.below HK3.out HGB.out HLT.out).cell 5, (Blk.below HK3.out HGB.out HLT.out).cell 6, (Blk.below HK3.out HGB.out HLT.out).cell 7, (Blk.below HK3.out HGB.out HLT.out).cell 8, (Blk.below HK3.out HGB.out HLT.out).cell 9, (Blk.below HK3.out HGB.out HLT.out).cell 10, (Blk.below HK3.out HGB.out HLT.out).cell 11⟩) (first | (go_at_call 31; refine (HMO.out _).mono ?_; rintro e u ⟨rfl, hb⟩; have HSN := Lib.hid (HGB.out.trans (hb.mono HGB.out.size)); clear HGB; have HGB := HSN; clear HSN; clear hb) | (go_at_call 32; refine (HSA.out _ (HR.out.below (HB3.out.trans (HGB.out.mono HB3.out.size)) rfl)).mono ?_; rintro e u ⟨rfl, hb⟩; have HSN := Lib.hid (HGB.out.trans (hb.mono HGB.out.size)); clear HGB; have HGB := HSN; clear HSN; clear hb))
    all_goals
      have HB4 := Lib.hid (HB3.out.trans (HGB.out.mono HB3.out.size))
      have HK4 := Lib.hid (show CfgB u w.heap.size c from Blk.below HK3.out HGB.out (Blk.lt HK3.out))
      clear HGB HB3 HK3 HLT HMO HSA hp1 hp2 w3 w4 w5 w6 w7
      rename_i hheld
      clear hheld
      generalize u = W4 at *
      have he0 := HE1.out
      have hp3 := HP3.out
      have w8 : IntKind.i64.wrap (4 + (p3 + E) - (4 + p3)) = E := by rw [wr_in _ (by omega) (by omega)]; omega
      have w9 : IntKind.i64.wrap (4 + p3) = 4 + p3 := wr_in _ (by omega) (by omega)
      have w10 : IntKind.i64.wrap p3 = p3 := wr_in _ (by omega) (by omega)
      clear he0 HE1 HP3
      have c0 : W4.cell? ⟨w.heap.size, 0, none⟩ = some (.slice c.aw c.nw c.cw) := HK4.out.cell 0
      have c1 : W4.cell? ⟨w.heap.size, 1, none⟩ = some (.slice c.ac c.nc c.cc) := HK4.out.cell 1
      have c2 : W4.cell? ⟨w.heap.size, 2, none⟩ = some (.int .i64 c.wk) := HK4.out.cell 2
      have c3 : W4.cell? ⟨w.heap.size, 3, none⟩ = some (.int .i64 c.cp) := HK4.out.cell 3
      have c4 : W4.cell? ⟨w.heap.size, 4, none⟩ = some (.int .i64 c.sl) := HK4.out.cell 4
      have c5 : W4.cell? ⟨w.heap.size, 5, none⟩ = some (.int .i64 c.ba) := HK4.out.cell 5
      have c6 : W4.cell? ⟨w.heap.size, 6, none⟩ = some (.int .i64 c.le) := HK4.out.cell 6
      have c7 : W4.cell? ⟨w.heap.size, 7, none⟩ = some (.int .i64 c.he) := HK4.out.cell 7
      have c8 : W4.cell? ⟨w.heap.size, 8, none⟩ = some (.int .i64 c.fi) := HK4.out.cell 8
      have c9 : W4.cell? ⟨w.heap.size, 9, none⟩ = some (.int .i64 c.ca) := HK4.out.cell 9
      have c10 : W4.cell? ⟨w.heap.size, 10, none⟩ = some (.int .i64 c.ji) := HK4.out.cell 10
      have c11 : W4.cell? ⟨w.heap.size, 11, none⟩ = some (.int .i64 c.ne) := HK4.out.cell 11
      go_wp2_with fail
      refine (HB_0.out W4 (HR.out.below HB4.out rfl)).mono ?_
      rintro e W5 ⟨rfl, hb⟩
      have HB5 := Lib.hid (HB4.out.trans (hb.mono HB4.out.size))
      have HK5 := Lib.hid (show CfgB W5 w.heap.size c from Blk.below HK4.out hb (Blk.lt HK4.out))
      clear hb HB4 HK4
      clear c0 c1 c2 c3 c4 c5 c6 c7 c8 c9 c10 c11 HB_0
      have c0 : W5.cell? ⟨w.heap.size, 0, none⟩ = some (.slice c.aw c.nw c.cw) := HK5.out.cell 0
      have c1 : W5.cell? ⟨w.heap.size, 1, none⟩ = some (.slice c.ac c.nc c.cc) := HK5.out.cell 1
      have c2 : W5.cell? ⟨w.heap.size, 2, none⟩ = some (.int .i64 c.wk) := HK5.out.cell 2
      have c3 : W5.cell? ⟨w.heap.size, 3, none⟩ = some (.int .i64 c.cp) := HK5.out.cell 3
      have c4 : W5.cell? ⟨w.heap.size, 4, none⟩ = some (.int .i64 c.sl) := HK5.out.cell 4
      have c5 : W5.cell? ⟨w.heap.size, 5, none⟩ = some (.int .i64 c.ba) := HK5.out.cell 5
      have c6 : W5.cell? ⟨w.heap.size, 6, none⟩ = some (.int .i64 c.le) := HK5.out.cell 6
      have c7 : W5.cell? ⟨w.heap.size, 7, none⟩ = some (.int .i64 c.he) := HK5.out.cell 7
      have c8 : W5.cell? ⟨w.heap.size, 8, none⟩ = some (.int .i64 c.fi) := HK5.out.cell 8
      have c9 : W5.cell? ⟨w.heap.size, 9, none⟩ = some (.int .i64 c.ca) := HK5.out.cell 9
      have c10 : W5.cell? ⟨w.heap.size, 10, none⟩ = some (.int .i64 c.ji) := HK5.out.cell 10
      have c11 : W5.cell? ⟨w.heap.size, 11, none⟩ = some (.int .i64 c.ne) := HK5.out.cell 11
      go_wp2_with fail
      refine (HB_1.out W5 (HR.out.below HB5.out rfl)).mono ?_
      rintro e W6 ⟨rfl, hb⟩
      have HB6 := Lib.hid (HB5.out.trans (hb.mono HB5.out.size))
      have HK6 := Lib.hid (show CfgB W6 w.heap.size c from Blk.below HK5.out hb (Blk.lt HK5.out))
      clear hb HB5 HK5
      clear c0 c1 c2 c3 c4 c5 c6 c7 c8 c9 c10 c11 HB_1
      go_wp2_with fail
      refine (awake_any _).mono ?_
      rintro e v9 ⟨rfl, hb⟩
      have HB9 := Lib.hid (HB6.out.trans (hb.mono HB6.out.size))
      clear hb
      go_wp2_with fail
      go_ret
      exact ⟨rfl, HB9.out⟩
end Go.Proofs.Ytjdanngkmkgidaa
