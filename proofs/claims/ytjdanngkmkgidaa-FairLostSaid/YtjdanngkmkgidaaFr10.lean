/- fair.Fair. -/
import Derived.Test.YtjdanngkmkgidaaFr9
namespace Go.Proofs.Ytjdanngkmkgidaa
open Go.RowKit
set_option linter.unusedVariables false

def winAt (l : List RecM) (fn bn w : Nat) : List RecM := (l.drop (fn + w * bn)).take bn
def roundB (W : Nat) (l : List RecM) (fn bn wn : Nat) (good : List Int) (f : Int → Bool) (w : Nat) : Bool := windowB W (winAt l fn bn w) good f && (decide (w + 1 = wn) || gotB (winAt l fn bn w) (winAt l fn bn (w + 1)) f)
def FairB (c : CfgM) (l : List RecM) (fn bn wn : Nat) (good : List Int) : Bool := decide (fn + wn * bn ≤ l.length) && (goodC c good && (List.range wn).all (roundB c.wk.toNat l fn bn wn good (wayB l good)))
def FaR (w : World) (c : CfgM) (B bm q N : Nat) (P : Nat → Bool) (f : Int → Bool) (v56 : Value) (wr : World) : Prop := ∃ i : Nat, i ≤ N ∧ v56 = .int .i64 i ∧ RowKit.Hid ((List.range i).all P = true) ∧ RowKit.Hid (CfgB wr B c) ∧ RowKit.Hid (MapB wr bm q f) ∧ RowKit.Hid (Below w.heap.size w wr)
set_option maxRecDepth 100000 in
set_option maxHeartbeats 8000000 in
theorem Fair_any (c : CfgM) (a : Option Addr) (n cap : Nat) (l : List RecM) (fn bn wn : Nat) (ag : Option Addr) (ng cg : Nat) (good : List Int) (w : World) (hc : CfgOK w c) (hr : Recs w a n cap l) (hg : Rd w ag ng cg (ints good))
    (h1 : l.length ≤ 1000) (h2 : ∀ r ∈ l, r.sent.length ≤ 1000) (h3 : good.length ≤ 1000) (hf : fn ≤ 50) (hb1 : 1 ≤ bn) (hb : bn ≤ 30) (hw1 : 1 ≤ wn) (hw : wn ≤ 20) :
    Calls Try.prog 35 #[c.val, .slice a n cap, .int .i64 (fn : Int), .int .i64 (bn : Int), .int .i64 (wn : Int), .slice ag ng cg] w fun e w' => e = .returned (.bool (FairB c l fn bn wn good)) ∧ Below w.heap.size w w' := by
  have hn := hr.rd.1
  have hcm := hr.rd.2.2.1
  have hcap := hr.rd.2.1
  unfold maxLen at hcm
  have HC := Lib.hid hc
  have HR := Lib.hid hr
  have HG := Lib.hid hg
  have HGOOD := Lib.hid (fun w h1 h2 => fgood_any c ag ng cg good w h1 h2)
  have HWAY := Lib.hid (fun w h k => ways_any a n cap l ag ng cg good w h k h1 h2 h3)
  have HWIN := Lib.hid (fun (a : Option Addr) (n cap : Nat) (l : List RecM) (bm q : Nat) (f : Int → Bool) (W : Nat) (w : World) x1 x2 x3 x4 x5 => window_any c a n cap l ag ng cg good bm q f W w x1 x2 x3 x4 x5)
  obtain ⟨R, hR⟩ : ∃ R, FairB c l fn bn wn good = R := ⟨_, rfl⟩
  rw [hR]
  have HRR := Lib.hid hR
  have HL := Lib.hid hn
  rw [hn] at h1
  clear hc hr hg h2 h3 hR hn
  unfold CfgM.val at HGOOD HWIN ⊢
  have t1 : decide ((wn : Int) < 1) = false := by simp; omega
  have t2 : decide ((10000 : Int) < (wn : Int)) = false := by simp; omega
  have t3 : decide ((bn : Int) < 1) = false := by simp; omega
  have t4 : decide ((fn : Int) < 0) = false := by simp
  by_cases q3 : n < fn
  · obtain rfl : R = false := by rw [← HRR.out]; unfold FairB; rw [decide_eq_false (by have := HL.out; omega)]; rfl
    have d3 : decide (n < fn) = true := by simpa using q3
    have d3i : decide ((n : Int) < (fn : Int)) = true := by simpa using q3
    clear HWIN HWAY HGOOD q3
    go_enter Try.func35, Try.ntmps35
    go_wp2_with fail
    go_ret
    exact ⟨rfl, (Below.refl _ w).alloc (Nat.le_refl _) _⟩
  have d3 : decide (n < fn) = false := by simpa using q3
  have d3i : decide ((n : Int) < (fn : Int)) = false := by simpa using q3
  have q3' : fn ≤ n := by omega
  obtain ⟨rest, hrest⟩ : ∃ r, n - fn = r := ⟨_, rfl⟩
  by_cases q4 : rest / wn < bn
  · have hlt : rest < wn * bn := by rw [Nat.mul_comm]; exact (Nat.div_lt_iff_lt_mul (by omega)).1 q4
    obtain rfl : R = false := by rw [← HRR.out]; unfold FairB; rw [decide_eq_false (by have := HL.out; omega)]; rfl
    have d4 : decide (((n : Int) - (fn : Int)) / (wn : Int) < (bn : Int)) = true := by
      rw [show (n : Int) - (fn : Int) = (rest : Int) by omega]; simp only [decide_eq_true_eq]; exact_mod_cast q4
    clear HWIN HWAY HGOOD q3 q4 hlt
    go_enter Try.func35, Try.ntmps35
    go_wp2_with fail
    go_ret
    exact ⟨rfl, (Below.refl _ w).alloc (Nat.le_refl _) _⟩
  have d4 : decide (((n : Int) - (fn : Int)) / (wn : Int) < (bn : Int)) = false := by
    rw [show (n : Int) - (fn : Int) = (rest : Int) by omega]; simp only [decide_eq_false_iff_not]; exact_mod_cast q4
  have q5 : fn + wn * bn ≤ n := by
    have := (Nat.le_div_iff_mul_le (show 0 < wn by omega)).1 (Nat.le_of_not_lt q4)
    rw [Nat.mul_comm] at this; omega
  have hR := HRR.out
  unfold FairB at hR
  rw [decide_eq_true (by have := HL.out; omega), Bool.true_and] at hR
  have hpos : 0 < n := by have := Nat.mul_le_mul hw1 hb1; omega
  obtain ⟨ba, off, rfl, hba⟩ := HR.out.some_ hpos
  have HBA := Lib.hid hba
  have HRQ := Lib.hid hR
  have HQ5 := Lib.hid q5
  clear q3 q4 HRR hR hba hrest q5 hpos
  go_enter Try.func35, Try.ntmps35
  go_upto_region 1 with fail
  have HK := Lib.hid (show CfgB (w.alloc (.cells #[.slice c.aw c.nw c.cw, .slice c.ac c.nc c.cc, .int .i64 c.wk, .int .i64 c.cp, .int .i64 c.sl, .int .i64 c.ba, .int .i64 c.le, .int .i64 c.he, .int .i64 c.fi, .int .i64 c.ca, .int .i64 c.ji, .int .i64 c.ne] 56)) w.heap.size c from heap_alloc_new w _)
  have HB := Lib.hid ((Below.refl _ w).alloc (Nat.le_refl _) (.cells #[.slice c.aw c.nw c.cw, .slice c.ac c.nc c.cc, .int .i64 c.wk, .int .i64 c.cp, .int .i64 c.sl, .int .i64 c.ba, .int .i64 c.le, .int .i64 c.he, .int .i64 c.fi, .int .i64 c.ca, .int .i64 c.ji, .int .i64 c.ne] 56))
  generalize (w.alloc (.cells #[.slice c.aw c.nw c.cw, .slice c.ac c.nc c.cc, .int .i64 c.wk, .int .i64 c.cp, .int .i64 c.sl, .int .i64 c.ba, .int .i64 c.le, .int .i64 c.he, .int .i64 c.fi, .int .i64 c.ca, .int .i64 c.ji, .int .i64 c.ne] 56)) = W at *
  have c0 : W.cell? ⟨w.heap.size, 0, none⟩ = some (.slice c.aw c.nw c.cw) := HK.out.cell 0
  have c1 : W.cell? ⟨w.heap.size, 1, none⟩ = some (.slice c.ac c.nc c.cc) := HK.out.cell 1
  have c2 : W.cell? ⟨w.heap.size, 2, none⟩ = some (.int .i64 c.wk) := HK.out.cell 2
  have c3 : W.cell? ⟨w.heap.size, 3, none⟩ = some (.int .i64 c.cp) := HK.out.cell 3
  have c4 : W.cell? ⟨w.heap.size, 4, none⟩ = some (.int .i64 c.sl) := HK.out.cell 4
  have c5 : W.cell? ⟨w.heap.size, 5, none⟩ = some (.int .i64 c.ba) := HK.out.cell 5
  have c6 : W.cell? ⟨w.heap.size, 6, none⟩ = some (.int .i64 c.le) := HK.out.cell 6
  have c7 : W.cell? ⟨w.heap.size, 7, none⟩ = some (.int .i64 c.he) := HK.out.cell 7
  have c8 : W.cell? ⟨w.heap.size, 8, none⟩ = some (.int .i64 c.fi) := HK.out.cell 8
  have c9 : W.cell? ⟨w.heap.size, 9, none⟩ = some (.int .i64 c.ca) := HK.out.cell 9
  have c10 : W.cell? ⟨w.heap.size, 10, none⟩ = some (.int .i64 c.ji) := HK.out.cell 10
  have c11 : W.cell? ⟨w.heap.size, 11, none⟩ = some (.int .i64 c.ne) := HK.out.cell 11
  go_wp2_with fail
  refine (HGOOD.out W (HC.out.below HB.out rfl) (HG.out.below HB.out rfl)).mono ?_
  rintro e W1 ⟨rfl, hb⟩
  have HB1 := Lib.hid (HB.out.trans (hb.mono HB.out.size))
  have HK1 := Lib.hid (show CfgB W1 w.heap.size c from Blk.below HK.out hb (Blk.lt HK.out))
  clear hb HB HK
  clear c0 c1 c2 c3 c4 c5 c6 c7 c8 c9 c10 c11 HGOOD
  have hmay : goodC c good = true → ∃ wn : Nat, c.wk = (wn : Int) ∧ wn ≤ 5 := fun h => by
    have hm : mayC c = true := by
      unfold goodC at h
      cases hm : mayC c
      · rw [hm] at h; cases h
      · rfl
    obtain ⟨_, m1, m2, _⟩ := may_of hm
    obtain ⟨k, hk⟩ := Int.eq_ofNat_of_zero_le (show 0 ≤ c.wk by omega)
    exact ⟨k, hk, by omega⟩
  have HMAY := Lib.hid hmay
  clear hmay
  cases hgd : goodC c good
  · rw [hgd] at HRQ
    obtain rfl : R = false := HRQ.out.symm
    clear HRQ hgd HMAY HWIN HWAY
    go_wp2_with fail
    go_ret
    exact ⟨rfl, HB1.out⟩
  obtain ⟨wk, hwn, hw5⟩ := HMAY.out hgd
  rw [hgd, hwn, Bool.true_and, Int.toNat_natCast] at HRQ
  have HWN := Lib.hid hwn
  clear hgd HMAY hwn
  have HR1 := Lib.hid (HR.out.below HB1.out rfl)
  have HG1 := Lib.hid (HG.out.below HB1.out rfl)
  clear t1 t2 t3 t4 d3 d3i d4
  go_wp2_with fail
  refine (HWAY.out _ HR1.out HG1.out).mono ?_
  rintro e W2 ⟨q, rfl, hmb, hb⟩
  have HB2 := Lib.hid (HB1.out.trans (hb.mono HB1.out.size))
  have HK2 := Lib.hid (show CfgB W2 w.heap.size c from Blk.below HK1.out hb (Blk.lt HK1.out))
  have HMB := Lib.hid hmb
  clear hmb hb HB1 HK1 HR1 HG1
  generalize W1.heap.size = bm at *
  obtain ⟨f, hf⟩ : ∃ f, wayB l good = f := ⟨_, rfl⟩
  rw [hf] at HMB HRQ
  clear hf
  go_wp2_with fail
  go_loopw [56] (fun v wr => FaR w c w.heap.size bm q wn (roundB wk l fn bn wn good f) f v wr) (fun v _ => wn - (intOf v).toNat)
  case atStart => exact ⟨0, Nat.zero_le _, rfl, by unfold RowKit.Hid; rfl, HK2.out, HMB.out, HB2.out⟩
  case round =>
    clear HK2 HMB HB2
    obtain ⟨i, hi, rfl, HA, HK, HM, HB⟩ := hrel
    by_cases hlt : i < wn
    · have hib : (i + 1) * bn ≤ wn * bn := Nat.mul_le_mul_right bn hlt
      have hib2 : wn * bn ≤ 600 := Nat.mul_le_mul hw hb
      have hq5 := HQ5.out
      rw [Nat.add_mul, Nat.one_mul] at hib
      have hmi : ((i * bn : Nat) : Int) = (i : Int) * (bn : Int) := by push_cast; rfl
      obtain ⟨ib, hibe⟩ : ∃ x, i * bn = x := ⟨_, rfl⟩
      have w1 : IntKind.i64.wrap ((i : Int) * (bn : Int)) = (ib : Int) := by rw [← hmi, hibe, wr_in _ (by omega) (by omega)]
      rw [hibe] at hib
      obtain ⟨s, hs⟩ : ∃ x, fn + ib = x := ⟨_, rfl⟩
      obtain ⟨en, hen⟩ : ∃ x, s + bn = x := ⟨_, rfl⟩
      have w2 : IntKind.i64.wrap ((fn : Int) + (ib : Int)) = (s : Int) := by rw [wr_in _ (by omega) (by omega)]; omega
      have w3 : IntKind.i64.wrap ((s : Int) + (bn : Int)) = (en : Int) := by rw [wr_in _ (by omega) (by omega)]; omega
      have hen2 : en ≤ n := by omega
      have HEN := Lib.hid (show s + bn ≤ n from by omega)
      have HSE := Lib.hid (show s = fn + ib ∧ en = s + bn from ⟨hs.symm, hen.symm⟩)
      have HWA := Lib.hid (show winAt l fn bn i = (l.drop s).take bn from by unfold winAt; rw [hibe, hs])
      clear hmi hib2 hq5
      have k1 : (0 : Int) ≤ (s : Int) := by omega
      have k2 : (s : Int) ≤ (en : Int) := by omega
      have k3 : (en : Int) ≤ (cap : Int) := by omega
      have k4 : en - s = bn := by omega
      have k5 : s ≤ en := by omega
      have k6 : en ≤ cap := by omega
      have k7 : s ≠ cap := by omega
      have k8 : s < cap := by omega
      have hsl : cap - s ≠ 0 := by omega
      have c0 : wr.cell? ⟨w.heap.size, 0, none⟩ = some (.slice c.aw c.nw c.cw) := HK.out.cell 0
      have c1 : wr.cell? ⟨w.heap.size, 1, none⟩ = some (.slice c.ac c.nc c.cc) := HK.out.cell 1
      have c2 : wr.cell? ⟨w.heap.size, 2, none⟩ = some (.int .i64 c.wk) := HK.out.cell 2
      have c3 : wr.cell? ⟨w.heap.size, 3, none⟩ = some (.int .i64 c.cp) := HK.out.cell 3
      have c4 : wr.cell? ⟨w.heap.size, 4, none⟩ = some (.int .i64 c.sl) := HK.out.cell 4
      have c5 : wr.cell? ⟨w.heap.size, 5, none⟩ = some (.int .i64 c.ba) := HK.out.cell 5
      have c6 : wr.cell? ⟨w.heap.size, 6, none⟩ = some (.int .i64 c.le) := HK.out.cell 6
      have c7 : wr.cell? ⟨w.heap.size, 7, none⟩ = some (.int .i64 c.he) := HK.out.cell 7
      have c8 : wr.cell? ⟨w.heap.size, 8, none⟩ = some (.int .i64 c.fi) := HK.out.cell 8
      have c9 : wr.cell? ⟨w.heap.size, 9, none⟩ = some (.int .i64 c.ca) := HK.out.cell 9
      have c10 : wr.cell? ⟨w.heap.size, 10, none⟩ = some (.int .i64 c.ji) := HK.out.cell 10
      have c11 : wr.cell? ⟨w.heap.size, 11, none⟩ = some (.int .i64 c.ne) := HK.out.cell 11
      clear hs hen
      go_wp2_with fail
      refine (HWIN.out _ _ _ _ bm q f wk wr ((HR.out.below HB.out rfl).cut s bn HEN.out) (HG.out.below HB.out rfl) HM.out HWN.out hw5).mono ?_
      rintro e W3 ⟨rfl, hb⟩
      have HB3 := Lib.hid (HB.out.trans (hb.mono HB.out.size))
      have HK3 := Lib.hid (show CfgB W3 w.heap.size c from Blk.below HK.out hb (Blk.lt HK.out))
      have HM3 := Lib.hid (HM.out.below hb)
      clear hb HB HK HM c0 c1 c2 c3 c4 c5 c6 c7 c8 c9 c10 c11
      have HBW := Lib.hid (show windowB wk ((l.drop s).take bn) good f = windowB wk (winAt l fn bn i) good f from by rw [HWA.out])
      rw [HBW.out]
      cases hwv : windowB wk (winAt l fn bn i) good f
      · obtain rfl : R = false := by
          rw [← HRQ.out]
          exact List.all_eq_false.2 ⟨i, List.mem_range.2 hlt, by unfold roundB; rw [hwv]; simp⟩
        clear hwv
        go_wp2_with fail
        go_ret
        exact ⟨rfl, HB3.out⟩
      · have HWV := Lib.hid hwv
        clear hwv
        have hws : IntKind.i64.wrap ((wn : Int) - 1) = ((wn - 1 : Nat) : Int) := by rw [wr_in _ (by omega) (by omega)]; omega
        by_cases hl : i + 1 < wn
        · have hq5 := HQ5.out
          have hib3 : (i + 2) * bn ≤ wn * bn := Nat.mul_le_mul_right bn hl
          rw [show i + 2 = i + 1 + 1 from rfl, Nat.add_mul, Nat.add_mul, Nat.one_mul, hibe] at hib3
          have he9 := HSE.out
          obtain ⟨b2, hb2⟩ : ∃ x, 2 * bn = x := ⟨_, rfl⟩
          obtain ⟨e2, he2⟩ : ∃ x, s + b2 = x := ⟨_, rfl⟩
          have w5 : IntKind.i64.wrap (2 * (bn : Int)) = (b2 : Int) := by rw [wr_in _ (by omega) (by omega)]; omega
          have w6 : IntKind.i64.wrap ((s : Int) + (b2 : Int)) = (e2 : Int) := by rw [wr_in _ (by omega) (by omega)]; omega
          have HEN2 := Lib.hid (show en + bn ≤ n from by omega)
          have HWA2 := Lib.hid (show winAt l fn bn (i + 1) = (l.drop en).take bn from by unfold winAt; rw [Nat.add_mul, Nat.one_mul, hibe, show fn + (ib + bn) = en from by omega])
          have j2 : (en : Int) ≤ (e2 : Int) := by omega
          have j3 : (e2 : Int) ≤ (cap : Int) := by omega
          have j4 : e2 - en = bn := by omega
          have j5 : en ≤ e2 := by omega
          have j6 : e2 ≤ cap := by omega
          have j7 : en ≠ cap := by omega
          have j8 : en < cap := by omega
          have j1 : (0 : Int) ≤ (en : Int) := by omega
          have hsl2 : cap - en ≠ 0 := by omega
          have dl : decide ((i : Int) < (wn : Int) - 1) = true := by simp; omega
          have dl2 : decide (i < wn - 1) = true := by simp; omega
          have dl3 : decide ((i : Int) < ((wn - 1 : Nat) : Int)) = true := by simp; omega
          clear hq5 hib3 he9 hb2 he2
          go_wp2_with fail
          refine (got_any _ _ _ _ _ _ _ _ bm q f W3 ((HR.out.below HB3.out rfl).cut s bn HEN.out) ((HR.out.below HB3.out rfl).cut en bn HEN2.out) HM3.out (by simp; omega) (by simp; omega)).mono ?_
          rintro e W4 ⟨rfl, hb⟩
          have HB4 := Lib.hid (HB3.out.trans (hb.mono HB3.out.size))
          have HK4 := Lib.hid (show CfgB W4 w.heap.size c from Blk.below HK3.out hb (Blk.lt HK3.out))
          have HM4 := Lib.hid (HM3.out.below hb)
          clear hb HB3 HK3 HM3
          have HGW := Lib.hid (show gotB ((l.drop s).take bn) ((l.drop en).take bn) f = gotB (winAt l fn bn i) (winAt l fn bn (i + 1)) f from by rw [HWA.out, HWA2.out])
          rw [HGW.out]
          cases hgv : gotB (winAt l fn bn i) (winAt l fn bn (i + 1)) f
          · obtain rfl : R = false := by
              rw [← HRQ.out]
              exact List.all_eq_false.2 ⟨i, List.mem_range.2 hlt, by unfold roundB; rw [hgv, decide_eq_false (show ¬ (i + 1 = wn) by omega)]; simp⟩
            clear hgv
            go_wp2_with fail
            go_ret
            exact ⟨rfl, HB4.out⟩
          · have HGV := Lib.hid hgv
            clear hgv
            go_wp2_with fail
            go_roundw
            case rel => exact ⟨i + 1, by omega, by go_num, (by unfold RowKit.Hid; rw [List.range_succ, List.all_append, HA.out, List.all_cons]; unfold roundB; rw [HWV.out, HGV.out, Bool.or_true]; rfl), HK4.out, HM4.out, HB4.out⟩
            case measure => simp [intOf]; omega
        · have dl : decide ((i : Int) < (wn : Int) - 1) = false := by simp; omega
          have dl2 : decide (i < wn - 1) = false := by simp; omega
          have dl3 : decide ((i : Int) < ((wn - 1 : Nat) : Int)) = false := by simp; omega
          go_wp2_with fail
          go_roundw
          case rel => exact ⟨i + 1, by omega, by go_num, (by unfold RowKit.Hid; rw [List.range_succ, List.all_append, HA.out, List.all_cons]; unfold roundB; rw [HWV.out, decide_eq_true (show i + 1 = wn by omega)]; rfl), HK3.out, HM3.out, HB3.out⟩
          case measure => simp [intOf]; omega
    · obtain rfl : i = wn := by omega
      obtain rfl : R = true := by rw [← HRQ.out]; exact HA.out
      go_wp2_with fail
      go_ret
      exact ⟨rfl, HB.out⟩
end Go.Proofs.Ytjdanngkmkgidaa
