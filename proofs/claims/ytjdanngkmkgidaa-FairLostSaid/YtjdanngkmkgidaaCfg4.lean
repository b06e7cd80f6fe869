/- fair.Good. -/
import Derived.Test.YtjdanngkmkgidaaCfg3
namespace Go.Proofs.Ytjdanngkmkgidaa
open Go.RowKit
set_option linter.unusedVariables false

/-- is each one a copy of its shard? -/
def copyAt (c : CfgM) (good : List Int) (s : Nat) : Bool := has (copiesC c s) (good.getD s 0)
def goodC (c : CfgM) (good : List Int) : Bool := mayC c && decide ((good.length : Int) = shardsC c) && (List.range good.length).all (copyAt c good)
def GdR (c : CfgM) (good : List Int) (W : World) (v18 : Value) (wr : World) : Prop := ∃ k : Nat, k ≤ good.length ∧ v18 = .int .i64 k ∧ RowKit.Hid ((List.range k).all (copyAt c good) = true) ∧ RowKit.Hid (Below W.heap.size W wr)
set_option maxRecDepth 100000 in
set_option maxHeartbeats 4000000 in
theorem fgood_any (c : CfgM) (a : Option Addr) (n cap : Nat) (good : List Int) (w : World) (hr : CfgOK w c) (hg : Rd w a n cap (ints good)) :
    Calls Try.prog 47 #[c.val, .slice a n cap] w fun e w' => e = .returned (.bool (goodC c good)) ∧ Below w.heap.size w w' := by
  have hn := hg.1
  rw [ints_len] at hn
  subst hn
  have HR := Lib.hid hr
  have HGD := Lib.hid hg
  have hcap := hg.2.1
  have hcm := hg.2.2.1
  unfold maxLen at hcm
  clear hr hg
  have HSA := Lib.hid (fun w h => shards_any c w h)
  have HCO := Lib.hid (fun s w h => copies_any c s w h)
  obtain ⟨R, hR⟩ : ∃ R, goodC c good = R := ⟨_, rfl⟩
  rw [hR]
  have HRR := Lib.hid hR
  clear hR
  unfold CfgM.val at HSA HCO ⊢
  go_enter Try.func47, Try.ntmps47
  go_wp2_with fail
  have HK := Lib.hid (show Blk (w.alloc (.cells #[.slice c.aw c.nw c.cw, .slice c.ac c.nc c.cc, .int .i64 c.wk, .int .i64 c.cp, .int .i64 c.sl, .int .i64 c.ba, .int .i64 c.le, .int .i64 c.he, .int .i64 c.fi, .int .i64 c.ca, .int .i64 c.ji, .int .i64 c.ne] 56)) w.heap.size 56 [.slice c.aw c.nw c.cw, .slice c.ac c.nc c.cc, .int .i64 c.wk, .int .i64 c.cp, .int .i64 c.sl, .int .i64 c.ba, .int .i64 c.le, .int .i64 c.he, .int .i64 c.fi, .int .i64 c.ca, .int .i64 c.ji, .int .i64 c.ne] from heap_alloc_new w _)
  have HB := Lib.hid ((Below.refl _ w).alloc (Nat.le_refl _) (.cells #[.slice c.aw c.nw c.cw, .slice c.ac c.nc c.cc, .int .i64 c.wk, .int .i64 c.cp, .int .i64 c.sl, .int .i64 c.ba, .int .i64 c.le, .int .i64 c.he, .int .i64 c.fi, .int .i64 c.ca, .int .i64 c.ji, .int .i64 c.ne] 56))
  generalize (w.alloc (.cells #[.slice c.aw c.nw c.cw, .slice c.ac c.nc c.cc, .int .i64 c.wk, .int .i64 c.cp, .int .i64 c.sl, .int .i64 c.ba, .int .i64 c.le, .int .i64 c.he, .int .i64 c.fi, .int .i64 c.ca, .int .i64 c.ji, .int .i64 c.ne] 56)) = W at *
  have c0 : W.cell? ⟨w.heap.size, 0, none⟩ = some (.slice c.aw c.nw c.cw) := HK.out.cell 0
  have c1 : W.cell? ⟨w.heap.size, 1, none⟩ = some (.slice c.ac c.nc c.cc) := HK.out.cell 1
  have c2 : W.cell? ⟨w.heap.size, 2, none⟩ = some (.int .i64 c.wk) := HK.out.cell 2
  have c3 : W.cell? ⟨w.heap.size, 3, none⟩ = some (.int .i64 c.cp) := HK.out.cell 3
  have c4 : W.cell? ⟨w.heap.size, 4, none⟩ = some (.int .i64 c.sl) := HK.out.cell 4
  have c5 : W.cell? ⟨w.heap.size, 5, none⟩ = some (.int .i64 c.ba) := HK.out.cell 5
  have c6 : W.cell? ⟨w.heap.size, 6, none⟩ = some (.int .i64 c.le) := HK.out.cell 6
  have c7 : W.cell? ⟨w.heap.size, 7, none⟩ = some (.int .i64 c.he) := HK.out.cell 7
  have c8 : W.cell? ⟨w.heap.size, 8, none⟩ = some (.int .i64 c.fi) := HK.out.cell 8
  have c9 : W.cell? ⟨w.heap.size, 9, none⟩ = some (.int .i64 c.ca) := HK.out.cell 9
  have c10 : W.cell? ⟨w.heap.size, 10, none⟩ = some (.int .i64 c.ji) := HK.out.cell 10
  have c11 : W.cell? ⟨w.heap.size, 11, none⟩ = some (.int .i64 c.ne) := HK.out.cell 11
  refine (HSA.out W (HR.out.below HB.out rfl)).mono ?_
  rintro e W1 ⟨rfl, hb⟩
  have HB1 := Lib.hid (HB.out.trans (hb.mono HB.out.size))
  have HK1 := Lib.hid (HK.out.below hb HK.out.lt)
  clear hb HB HK
  clear c0 c1 c2 c3 c4 c5 c6 c7 c8 c9 c10 c11 HSA
  have hbd := shardsC_bd c
  obtain ⟨sh, hsh⟩ : ∃ sh, shardsC c = sh := ⟨_, rfl⟩
  have HSH := Lib.hid hsh
  rw [hsh] at hbd ⊢
  clear hsh
  obtain ⟨hb1, hb2⟩ := hbd
  by_cases h0 : sh = 0
  · subst h0
    obtain rfl : R = false := by
      rw [← HRR.out]; unfold goodC
      cases hm : mayC c
      · rfl
      · have := shardsC_may hm; have := HSH.out; omega
    go_wp2_with fail
    go_ret
    exact ⟨rfl, HB1.out⟩
  by_cases hl : (good.length : Int) = sh
  rotate_left
  · obtain rfl : R = false := by
      rw [← HRR.out]; unfold goodC; rw [HSH.out, decide_eq_false hl]; simp
    have d1 : (sh == 0) = false := by simpa using h0
    have d2 : ((good.length : Int) != sh) = true := by simpa using hl
    go_wp2_with fail
    go_ret
    exact ⟨rfl, HB1.out⟩
  have hR := HRR.out
  unfold goodC at hR
  rw [HSH.out, decide_eq_true hl, (show mayC c = true from by
    cases hm : mayC c
    · have := shardsC_no hm; have := HSH.out; omega
    · rfl)] at hR
  simp only [Bool.true_and] at hR
  have HRQ := Lib.hid hR
  obtain ⟨n, hn⟩ : ∃ n, good.length = n := ⟨_, rfl⟩
  rw [hn] at hl hcap
  rw [hn]
  have HN := Lib.hid hn
  subst hl
  have HG := Lib.hid HK1.out.lt
  have d3 : ((n : Int) == 0) = false := by simpa using h0
  clear hR HRR HSH hn h0
  go_wp2_with fail
  go_loopw [18] (fun v wr => GdR c good W1 v wr) (fun v _ => n - (intOf v).toNat)
  case atStart => exact ⟨0, Nat.zero_le _, rfl, rfl, Below.refl _ _⟩
  case round =>
    obtain ⟨k, hk, rfl, HA, HB⟩ := hrel
    rw [HN.out] at hk
    by_cases hlt : k < n
    · obtain ⟨b, off, rfl, hbl, hc⟩ := HGD.out.2.2.2.2 k (by rw [HN.out]; exact hlt)
      obtain ⟨x, hx⟩ : ∃ x, good[k]? = some x := ⟨_, List.getElem?_eq_getElem (by rw [HN.out]; exact hlt)⟩
      have HX := Lib.hid hx
      have hc' : wr.cell? ⟨b, off + k, none⟩ = some (.int .i64 x) := by
        rw [(HB1.out.trans (HB.out.mono HB1.out.size)).cell (p := ⟨b, off + k, none⟩) hbl, hc]; unfold ints; rw [List.getElem?_map, hx]; rfl
      have HC := Lib.hid hc'
      have HBL := Lib.hid (show b < wr.heap.size from Nat.lt_of_lt_of_le hbl (HB1.out.trans (HB.out.mono HB1.out.size)).size)
      have HGW := Lib.hid (Nat.lt_of_lt_of_le HG.out HB.out.size)
      have HKW := Lib.hid (HK1.out.below HB.out HG.out)
      have HRW := Lib.hid (HR.out.below (HB1.out.trans (HB.out.mono HB1.out.size)) rfl)
      clear hbl hc hx hc'
      go_wp2_with fail
      have HGB : RowKit.Hid (Below wr.heap.size wr wr.drew) := below_drewN (Below.refl _ _) 1
      go_region_held3 (fun w' => w'.cell? ⟨w.heap.size, 0, none⟩ = some (.slice c.aw c.nw c.cw) ∧ w'.cell? ⟨w.heap.size, 1, none⟩ = some (.slice c.ac c.nc c.cc) ∧ w'.cell? ⟨w.heap.size, 2, none⟩ = some (.int .i64 c.wk) ∧ w'.cell? ⟨w.heap.size, 3, none⟩ = some (.int .i64 c.cp) ∧ w'.cell? ⟨w.heap.size, 4, none⟩ = some (.int .i64 c.sl) ∧ w'.cell? ⟨w.heap.size, 5, none⟩ = some (.int .i64 c.ba) ∧ w'.cell? ⟨w.heap.size, 6, none⟩ = some (.int .i64 c.le) ∧ w'.cell? ⟨w.heap.size, 7, none⟩ = some (.int .i64 c.he) ∧ w'.cell? ⟨w.heap.size, 8, none⟩ = some (.int .i64 c.fi) ∧ w'.cell? ⟨w.heap.size, 9, none⟩ = some (.int .i64 c.ca) ∧ w'.cell? ⟨w.heap.size, 10, none⟩ = some (.int .i64 c.ji) ∧ w'.cell? ⟨w.heap.size, 11, none⟩ = some (.int .i64 c.ne) ∧ w'.cell? ⟨b, off + k, none⟩ = some (.int .i64 x)) (exact ⟨(HKW.out.below HGB.out HGW.out).cell 0, (HKW.out.below HGB.out HGW.out).cell 1, (HKW.out.below HGB.out HGW.out).cell 2, (HKW.out.below HGB.out HGW.out).cell 3, (HKW.out.below HGB.out HGW.out).cell 4, (HKW.out.below HGB.out HGW.out).cell 5, (HKW.out.below HGB.out HGW.out).cell 6, (HKW.out.below HGB.out HGW.out).cell 7, (HKW.out.below HGB.out HGW.out).cell 8, (HKW.out.below HGB.out HGW.out).cell 9, (HKW.out.below HGB.out HGW.out).cell 10, (HKW.out.below HGB.out HGW.out).cell 11, (HGB.out.cell (p := ⟨b, off + k, none⟩) HBL.out).trans HC.out⟩) (first | (go_at_call 61; refine (HCO.out (k : Int) _ (HRW.out.below HGB.out rfl)).mono ?_; rintro e u ⟨ao3, n3, c3, rfl, hrd, hb⟩; have HRD := Lib.hid hrd; have HSN := Lib.hid (HGB.out.trans (hb.mono HGB.out.size)); clear HGB; have HGB := HSN; clear HSN; clear hb hrd) | (go_at_call 60; refine (contains_int ao3 n3 c3 (copiesC c k) x _ HRD.out).mono ?_; rintro e u ⟨rfl, rfl⟩; skip))
      all_goals
        have hq := show copyAt c good k = has (copiesC c k) x from by unfold copyAt; rw [List.getD_eq_getElem?_getD, HX.out]; rfl
        generalize has (copiesC c k) x = q at *
        have HQ := Lib.hid hq
        clear hq
        cases q
        · obtain rfl : R = false := by
            rw [← HRQ.out, HN.out, List.all_eq_false]
            exact ⟨k, by simpa using hlt, by rw [HQ.out]; decide⟩
          go_wp2_with fail
          go_ret
          exact ⟨rfl, HB1.out.trans ((HB.out.trans (HGB.out.mono HB.out.size)).mono HB1.out.size)⟩
        · go_wp2_with fail
          go_roundw
          case rel => exact ⟨k + 1, by rw [HN.out]; omega, by go_num, by unfold RowKit.Hid; rw [List.range_succ, List.all_append, HA.out]; simp [HQ.out], HB.out.trans (HGB.out.mono HB.out.size)⟩
          case measure => simp [intOf]; omega
    · obtain rfl : k = n := by omega
      obtain rfl : R = true := by rw [← HRQ.out, HN.out]; exact HA.out
      go_wp2_with fail
      go_ret
      exact ⟨rfl, HB1.out.trans (HB.out.mono HB1.out.size)⟩
end Go.Proofs.Ytjdanngkmkgidaa
