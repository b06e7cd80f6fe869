/- FairFewer. -/
import Derived.Test.YtjdanngkmkgidaaFr10
import Derived.Test.YtjdanngkmkgidaaFr7
namespace Go.Proofs.Ytjdanngkmkgidaa
open Go.RowKit
set_option linter.unusedVariables false

set_option maxRecDepth 100000 in
theorem Fair_zero (c : CfgM) (a : Option Addr) (n cap fn bn : Nat) (v : Value) (w : World) (hc : n ≤ cap) (hm : cap ≤ 9223372036854775807) :
    Calls Try.prog 35 #[c.val, .slice a n cap, .int .i64 (fn : Int), .int .i64 (bn : Int), .int .i64 0, v] w fun e w' => e = .returned (.bool false) ∧ Below w.heap.size w w' := by
  unfold CfgM.val
  go_enter Try.func35, Try.ntmps35
  go_wp2_with fail
  go_ret
  exact ⟨rfl, (Below.refl _ w).alloc (Nat.le_refl _) _⟩
theorem fair_parts {c : CfgM} {l : List RecM} {fn bn wn : Nat} {good : List Int} (h : FairB c l fn bn wn good = true) : fn + wn * bn ≤ l.length ∧ goodC c good = true ∧ ∀ i, i < wn → roundB c.wk.toNat l fn bn wn good (wayB l good) i = true := by
  unfold FairB at h
  simp only [Bool.and_eq_true, decide_eq_true_eq, List.all_eq_true, List.mem_range] at h
  exact ⟨h.1, h.2.1, h.2.2⟩
theorem round_win {W : Nat} {l : List RecM} {fn bn wn i : Nat} {good : List Int} {f : Int → Bool} (h : roundB W l fn bn wn good f i = true) : windowB W (winAt l fn bn i) good f = true := by
  unfold roundB at h
  rw [Bool.and_eq_true] at h
  exact h.1
theorem fair_window {c : CfgM} {l : List RecM} {fn bn wn : Nat} {good : List Int} (h : FairB c l fn bn wn good = true) (hb : 1 ≤ bn) {i : Nat} (hi : i < wn) : WindowB c l ((fn + i * bn : Nat) : Int) (bn : Int) good = true := by
  obtain ⟨h1, h2, h3⟩ := fair_parts h
  have hm := Nat.mul_le_mul_right bn hi
  rw [Nat.succ_mul] at hm
  have h4 := round_win (h3 i hi)
  unfold WindowB
  unfold winAt at h4
  rw [h2, Int.toNat_natCast, Int.toNat_natCast, h4, decide_eq_true (by omega)]
  rfl
theorem fair_less {c : CfgM} {l : List RecM} {fn bn wn : Nat} {good : List Int} (h : FairB c l fn bn wn good = true) {i : Nat} (hi : i ≤ wn) : FairB c l fn bn i good = true := by
  obtain ⟨h1, h2, h3⟩ := fair_parts h
  have hm := Nat.mul_le_mul_right bn hi
  unfold FairB
  rw [h2, decide_eq_true (by omega), Bool.true_and, Bool.true_and, List.all_eq_true]
  intro j hj
  rw [List.mem_range] at hj
  have h4 := h3 j (by omega)
  unfold roundB at h4 ⊢
  rw [Bool.and_eq_true] at h4 ⊢
  refine ⟨h4.1, ?_⟩
  rw [Bool.or_eq_true]
  by_cases e : j + 1 = i
  · exact .inl (by simpa using e)
  · refine .inr ?_
    have := h4.2
    rwa [decide_eq_false (by omega), Bool.false_or] at this
def FwR (w : World) (c : CfgM) (B N : Nat) (v13 : Value) (wr : World) : Prop := ∃ i : Nat, i ≤ N ∧ v13 = .int .i64 i ∧ RowKit.Hid (CfgB wr B c) ∧ RowKit.Hid (Below w.heap.size w wr)
set_option maxRecDepth 100000 in
set_option maxHeartbeats 8000000 in
theorem fewer_law (c : CfgM) (a : Option Addr) (n cap : Nat) (l : List RecM) (x2 x3 x4 : Int) (ag : Option Addr) (ng cg : Nat) (good : List Int) (w : World) (hc : CfgOK w c) (hr : Recs w a n cap l) (hg : Rd w ag ng cg (ints good)) :
    Calls Try.prog 10 #[c.val, .slice a n cap, .int .i64 x2, .int .i64 x3, .int .i64 x4, .slice ag ng cg] w fun e w' => e = .returned (.bool true) ∧ Below w.heap.size w w' := by
  have hn := hr.rd.1
  have hcm := hr.rd.2.2.1
  have hcap := hr.rd.2.1
  unfold maxLen at hcm
  have HC := Lib.hid hc
  have HR := Lib.hid hr
  have HG := Lib.hid hg
  have HGR := Lib.hid (fun w h1 h2 h3 => great_any c a n cap l ag ng cg good w h1 h2 h3)
  have HWIN := Lib.hid (fun (fr b : Int) w h1 h2 h3 h4 h5 h6 h7 => Window_any c a n cap l fr b ag ng cg good w h1 h2 h3 h4 h5 h6 h7)
  have HFA := Lib.hid (fun fn bn wn w h1 h2 h3 h4 h5 h6 h7 h8 h9 h10 h11 => Fair_any c a n cap l fn bn wn ag ng cg good w h1 h2 h3 h4 h5 h6 h7 h8 h9 h10 h11)
  have HFZ := Lib.hid (fun fn bn w => Fair_zero c a n cap fn bn (.slice ag ng cg) w hcap hcm)
  have HL := Lib.hid hn
  clear hc hr hg hn
  unfold CfgM.val at HGR HWIN HFA HFZ ⊢
  go_enter Try.func10, Try.ntmps10
  go_upto_region 1 with fail
  have HK := Lib.hid (show CfgB (w.alloc (.cells #[.slice c.aw c.nw c.cw, .slice c.ac c.nc c.cc, .int .i64 c.wk, .int .i64 c.cp, .int .i64 c.sl, .int .i64 c.ba, .int .i64 c.le, .int .i64 c.he, .int .i64 c.fi, .int .i64 c.ca, .int .i64 c.ji, .int .i64 c.ne] 56)) w.heap.size c from heap_alloc_new w _)
  have HB := Lib.hid ((Below.refl _ w).alloc (Nat.le_refl _) (.cells #[.slice c.aw c.nw c.cw, .slice c.ac c.nc c.cc, .int .i64 c.wk, .int .i64 c.cp, .int .i64 c.sl, .int .i64 c.ba, .int .i64 c.le, .int .i64 c.he, .int .i64 c.fi, .int .i64 c.ca, .int .i64 c.ji, .int .i64 c.ne] 56))
  generalize (w.alloc (.cells #[.slice c.aw c.nw c.cw, .slice c.ac c.nc c.cc, .int .i64 c.wk, .int .i64 c.cp, .int .i64 c.sl, .int .i64 c.ba, .int .i64 c.le, .int .i64 c.he, .int .i64 c.fi, .int .i64 c.ca, .int .i64 c.ji, .int .i64 c.ne] 56)) = W at *
  have c0 : W.cell? ⟨w.heap.size, 0, none⟩ = some (.slice c.aw c.nw c.cw) := HK.out.cell 0
  have c1 : W.cell? ⟨w.heap.size, 1, none⟩ = some (.slice c.ac c.nc c.cc) := HK.out.cell 1
  have c2 : W.cell? ⟨w.heap.size, 2, none⟩ = some (.int .i64 c.wk) := HK.out.cell 2
  have c3 : W.cell? ⟨w.heap.size, 3, none⟩ = some (.int .i64 c.cp) := HK.out.cell 3
  have c4 : W.cell? ⟨w.heap.size, 4, none⟩ = some (.int .i64 c.sl) := HK.out.cell 4
  have c5 : W.cell? ⟨w.heap.size, 5, none⟩ = some (.int .i64 c.ba) := HK.out.cell 5
  have c6 : W.cell? ⟨w.heap.size, 6, none⟩ = some (.int .i64 c.le) := HK.out.cell 6
  have c7 : W.cell? ⟨w.heap.size, 7, none⟩ = some (.int .i64 c.he) := HK.out.cell 7
  have c8 : W.cell? ⟨w.heap.size, 8, none⟩ = some (.int .i64 c.fi) := HK.out.cell 8
  have c9 : W.cell? ⟨w.heap.size, 9, none⟩ = some (.int .i64 c.ca) := HK.out.cell 9
  have c10 : W.cell? ⟨w.heap.size, 10, none⟩ = some (.int .i64 c.ji) := HK.out.cell 10
  have c11 : W.cell? ⟨w.heap.size, 11, none⟩ = some (.int .i64 c.ne) := HK.out.cell 11
  go_wp2_with fail
  refine (HGR.out W (HC.out.below HB.out rfl) (HR.out.below HB.out rfl) (HG.out.below HB.out rfl)).mono ?_
  rintro e W1 ⟨rfl, hb⟩
  have HB1 := Lib.hid (HB.out.trans (hb.mono HB.out.size))
  have HK1 := Lib.hid (show CfgB W1 w.heap.size c from Blk.below HK.out hb (Blk.lt HK.out))
  clear hb HB HK c0 c1 c2 c3 c4 c5 c6 c7 c8 c9 c10 c11
  cases hgc : greatB c l good.length
  case true =>
    clear hgc HWIN HFA HFZ
    go_wp2_with fail
    refine (awake_any _).mono ?_
    rintro e W9 ⟨rfl, hb⟩
    have HB9 := Lib.hid (HB1.out.trans (hb.mono HB1.out.size))
    clear hb
    go_wp2_with fail
    go_ret
    exact ⟨rfl, HB9.out⟩
  obtain ⟨m1, m2, m3⟩ := greatB_false hgc
  have HM1 := Lib.hid (show l.length ≤ 1000 from by omega)
  have HM2 := Lib.hid (show ∀ r ∈ l, r.sent.length ≤ 1000 from fun r hr => Nat.le_trans (m2 r hr).1 (by omega))
  have HM3 := Lib.hid (show good.length ≤ 1000 from by omega)
  clear hgc m1 m2 m3 HGR
  have hl4 := lowI_bd x4 20 (by decide)
  have hl3 := lowI_bd x3 30 (by decide)
  have hl2 := lowI_bd x2 50 (by decide)
  have HLW4 := Lib.hid (low_any x4 20)
  have HLW3 := Lib.hid (low_any x3 30)
  have HLW2 := Lib.hid (low_any x2 50)
  generalize lowI x4 20 = y4 at *
  generalize lowI x3 30 = y3 at *
  generalize lowI x2 50 = y2 at *
  obtain ⟨z4, rfl⟩ := Int.eq_ofNat_of_zero_le hl4.1
  obtain ⟨z3, rfl⟩ := Int.eq_ofNat_of_zero_le hl3.1
  obtain ⟨fn, rfl⟩ := Int.eq_ofNat_of_zero_le hl2.1
  obtain ⟨wn, hwn⟩ : ∃ x, 1 + z4 = x := ⟨_, rfl⟩
  obtain ⟨bn, hbn⟩ : ∃ x, 1 + z3 = x := ⟨_, rfl⟩
  have w4 : IntKind.i64.wrap (1 + (z4 : Int)) = (wn : Int) := by rw [wr_in _ (by omega) (by omega)]; omega
  have w3 : IntKind.i64.wrap (1 + (z3 : Int)) = (bn : Int) := by rw [wr_in _ (by omega) (by omega)]; omega
  have hwn1 : 1 ≤ wn := by omega
  have hwn2 : wn ≤ 20 := by omega
  have hbn1 : 1 ≤ bn := by omega
  have hbn2 : bn ≤ 30 := by omega
  have hfn : fn ≤ 50 := by omega
  clear hl4 hl3 hl2 hwn hbn
  go_wp2_with fail
  refine (HLW4.out W1 (by decide) (by decide)).mono ?_
  rintro e W2 ⟨rfl, rfl⟩
  go_wp2_with fail
  refine (HLW3.out W1 (by decide) (by decide)).mono ?_
  rintro e W2 ⟨rfl, rfl⟩
  go_wp2_with fail
  refine (HLW2.out W1 (by decide) (by decide)).mono ?_
  rintro e W2 ⟨rfl, rfl⟩
  have c0 : W1.cell? ⟨w.heap.size, 0, none⟩ = some (.slice c.aw c.nw c.cw) := HK1.out.cell 0
  have c1 : W1.cell? ⟨w.heap.size, 1, none⟩ = some (.slice c.ac c.nc c.cc) := HK1.out.cell 1
  have c2 : W1.cell? ⟨w.heap.size, 2, none⟩ = some (.int .i64 c.wk) := HK1.out.cell 2
  have c3 : W1.cell? ⟨w.heap.size, 3, none⟩ = some (.int .i64 c.cp) := HK1.out.cell 3
  have c4 : W1.cell? ⟨w.heap.size, 4, none⟩ = some (.int .i64 c.sl) := HK1.out.cell 4
  have c5 : W1.cell? ⟨w.heap.size, 5, none⟩ = some (.int .i64 c.ba) := HK1.out.cell 5
  have c6 : W1.cell? ⟨w.heap.size, 6, none⟩ = some (.int .i64 c.le) := HK1.out.cell 6
  have c7 : W1.cell? ⟨w.heap.size, 7, none⟩ = some (.int .i64 c.he) := HK1.out.cell 7
  have c8 : W1.cell? ⟨w.heap.size, 8, none⟩ = some (.int .i64 c.fi) := HK1.out.cell 8
  have c9 : W1.cell? ⟨w.heap.size, 9, none⟩ = some (.int .i64 c.ca) := HK1.out.cell 9
  have c10 : W1.cell? ⟨w.heap.size, 10, none⟩ = some (.int .i64 c.ji) := HK1.out.cell 10
  have c11 : W1.cell? ⟨w.heap.size, 11, none⟩ = some (.int .i64 c.ne) := HK1.out.cell 11
  go_wp2_with fail
  refine (HFA.out fn bn wn W1 (HC.out.below HB1.out rfl) (HR.out.below HB1.out rfl) (HG.out.below HB1.out rfl) HM1.out HM2.out HM3.out hfn hbn1 hbn2 hwn1 hwn2).mono ?_
  rintro e W2 ⟨rfl, hb⟩
  have HB2 := Lib.hid (HB1.out.trans (hb.mono HB1.out.size))
  have HK2 := Lib.hid (show CfgB W2 w.heap.size c from Blk.below HK1.out hb (Blk.lt HK1.out))
  clear hb HB1 HK1 c0 c1 c2 c3 c4 c5 c6 c7 c8 c9 c10 c11 w4 w3 HLW4 HLW3 HLW2
  cases hfa : FairB c l fn bn wn good
  case false =>
    clear hfa HWIN HFA HFZ
    go_wp2_with fail
    refine (awake_any _).mono ?_
    rintro e W9 ⟨rfl, hb⟩
    have HB9 := Lib.hid (HB2.out.trans (hb.mono HB2.out.size))
    clear hb
    go_wp2_with fail
    go_ret
    exact ⟨rfl, HB9.out⟩
  have HFB := Lib.hid hfa
  clear hfa
  go_wp2_with fail
  go_loopw [13] (fun v wr => FwR w c w.heap.size wn v wr) (fun v _ => wn - (intOf v).toNat)
  case atStart => exact ⟨0, Nat.zero_le _, rfl, HK2.out, HB2.out⟩
  case round =>
    clear HK2 HB2
    obtain ⟨i, hi, rfl, HK, HB⟩ := hrel
    by_cases hlt : i < wn
    · have hib : i * bn ≤ wn * bn := Nat.mul_le_mul_right bn hi
      have hib2 : wn * bn ≤ 600 := Nat.mul_le_mul hwn2 hbn2
      have hmi : ((i * bn : Nat) : Int) = (i : Int) * (bn : Int) := by push_cast; rfl
      have HWT := Lib.hid (fair_window HFB.out hbn1 hlt)
      obtain ⟨ib, hibe⟩ : ∃ x, i * bn = x := ⟨_, rfl⟩
      have w1 : IntKind.i64.wrap ((i : Int) * (bn : Int)) = (ib : Int) := by rw [← hmi, hibe, wr_in _ (by omega) (by omega)]
      rw [hibe] at hib HWT
      obtain ⟨s, hs⟩ : ∃ x, fn + ib = x := ⟨_, rfl⟩
      have w2 : IntKind.i64.wrap ((fn : Int) + (ib : Int)) = (s : Int) := by rw [wr_in _ (by omega) (by omega)]; omega
      rw [hs] at HWT
      have hs2 : (s : Int) ≤ 9223372036854775807 := by omega
      clear hmi hib2 hs hib
      have c0 : wr.cell? ⟨w.heap.size, 0, none⟩ = some (.slice c.aw c.nw c.cw) := HK.out.cell 0
      have c1 : wr.cell? ⟨w.heap.size, 1, none⟩ = some (.slice c.ac c.nc c.cc) := HK.out.cell 1
      have c2 : wr.cell? ⟨w.heap.size, 2, none⟩ = some (.int .i64 c.wk) := HK.out.cell 2
      have c3 : wr.cell? ⟨w.heap.size, 3, none⟩ = some (.int .i64 c.cp) := HK.out.cell 3
      have c4 : wr.cell? ⟨w.heap.size, 4, none⟩ = some (.int .i64 c.sl) := HK.out.cell 4
      have c5 : wr.cell? ⟨w.heap.size, 5, none⟩ = some (.int .i64 c.ba) := HK.out.cell 5
      have c6 : wr.cell? ⟨w.heap.size, 6, none⟩ = some (.int .i64 c.le) := HK.out.cell 6
      have c7 : wr.cell? ⟨w.heap.size, 7, none⟩ = some (.int .i64 c.he) := HK.out.cell 7
      have c8 : wr.cell? ⟨w.heap.size, 8, none⟩ = some (.int .i64 c.fi) := HK.out.cell 8
      have c9 : wr.cell? ⟨w.heap.size, 9, none⟩ = some (.int .i64 c.ca) := HK.out.cell 9
      have c10 : wr.cell? ⟨w.heap.size, 10, none⟩ = some (.int .i64 c.ji) := HK.out.cell 10
      have c11 : wr.cell? ⟨w.heap.size, 11, none⟩ = some (.int .i64 c.ne) := HK.out.cell 11
      go_wp2_with fail
      refine (HWIN.out _ _ wr (HC.out.below HB.out rfl) (HR.out.below HB.out rfl) (HG.out.below HB.out rfl) HM1.out HM2.out HM3.out ⟨by omega, hs2⟩).mono ?_
      rintro e W3 ⟨rfl, hb⟩
      rw [HWT.out]
      have HB3 := Lib.hid (HB.out.trans (hb.mono HB.out.size))
      have HK3 := Lib.hid (show CfgB W3 w.heap.size c from Blk.below HK.out hb (Blk.lt HK.out))
      clear hb HB HK c0 c1 c2 c3 c4 c5 c6 c7 c8 c9 c10 c11
      by_cases h0 : i = 0
      · subst h0
        go_wp2_with fail
        go_roundw
        case rel => exact ⟨1, by omega, by go_num, HK3.out, HB3.out⟩
        case measure => simp [intOf]; omega
      · have hi1 : 1 ≤ i := by omega
        have hi2 : i ≤ 20 := by omega
        have d0 : decide ((0 : Int) < (i : Int)) = true := by simp; omega
        have HFT := Lib.hid (fair_less HFB.out hi)
        have c0 : W3.cell? ⟨w.heap.size, 0, none⟩ = some (.slice c.aw c.nw c.cw) := HK3.out.cell 0
        have c1 : W3.cell? ⟨w.heap.size, 1, none⟩ = some (.slice c.ac c.nc c.cc) := HK3.out.cell 1
        have c2 : W3.cell? ⟨w.heap.size, 2, none⟩ = some (.int .i64 c.wk) := HK3.out.cell 2
        have c3 : W3.cell? ⟨w.heap.size, 3, none⟩ = some (.int .i64 c.cp) := HK3.out.cell 3
        have c4 : W3.cell? ⟨w.heap.size, 4, none⟩ = some (.int .i64 c.sl) := HK3.out.cell 4
        have c5 : W3.cell? ⟨w.heap.size, 5, none⟩ = some (.int .i64 c.ba) := HK3.out.cell 5
        have c6 : W3.cell? ⟨w.heap.size, 6, none⟩ = some (.int .i64 c.le) := HK3.out.cell 6
        have c7 : W3.cell? ⟨w.heap.size, 7, none⟩ = some (.int .i64 c.he) := HK3.out.cell 7
        have c8 : W3.cell? ⟨w.heap.size, 8, none⟩ = some (.int .i64 c.fi) := HK3.out.cell 8
        have c9 : W3.cell? ⟨w.heap.size, 9, none⟩ = some (.int .i64 c.ca) := HK3.out.cell 9
        have c10 : W3.cell? ⟨w.heap.size, 10, none⟩ = some (.int .i64 c.ji) := HK3.out.cell 10
        have c11 : W3.cell? ⟨w.heap.size, 11, none⟩ = some (.int .i64 c.ne) := HK3.out.cell 11
        go_wp2_with fail
        refine (HFA.out fn bn i W3 (HC.out.below HB3.out rfl) (HR.out.below HB3.out rfl) (HG.out.below HB3.out rfl) HM1.out HM2.out HM3.out hfn hbn1 hbn2 hi1 hi2).mono ?_
        rintro e W4 ⟨rfl, hb⟩
        rw [HFT.out]
        have HB4 := Lib.hid (HB3.out.trans (hb.mono HB3.out.size))
        have HK4 := Lib.hid (show CfgB W4 w.heap.size c from Blk.below HK3.out hb (Blk.lt HK3.out))
        clear hb HB3 HK3 c0 c1 c2 c3 c4 c5 c6 c7 c8 c9 c10 c11
        go_wp2_with fail
        go_roundw
        case rel => exact ⟨i + 1, by omega, by go_num, HK4.out, HB4.out⟩
        case measure => simp [intOf]; omega
    · obtain rfl : i = wn := by omega
      have hib2 : i * bn ≤ 600 := Nat.mul_le_mul hwn2 hbn2
      have hmi : ((i * bn : Nat) : Int) = (i : Int) * (bn : Int) := by push_cast; rfl
      have hle := (fair_parts HFB.out).1
      obtain ⟨ib, hibe⟩ : ∃ x, i * bn = x := ⟨_, rfl⟩
      have w1 : IntKind.i64.wrap ((i : Int) * (bn : Int)) = (ib : Int) := by rw [← hmi, hibe, wr_in _ (by omega) (by omega)]
      rw [hibe] at hle hib2
      obtain ⟨s, hs⟩ : ∃ x, fn + ib = x := ⟨_, rfl⟩
      have w2 : IntKind.i64.wrap ((fn : Int) + (ib : Int)) = (s : Int) := by rw [wr_in _ (by omega) (by omega)]; omega
      rw [hs, HL.out] at hle
      have d1 : decide ((s : Int) ≤ (n : Int)) = true := by simp; omega
      have d2 : decide (s ≤ n) = true := by simp; omega
      clear hmi hib2 hs hle
      have c0 : wr.cell? ⟨w.heap.size, 0, none⟩ = some (.slice c.aw c.nw c.cw) := HK.out.cell 0
      have c1 : wr.cell? ⟨w.heap.size, 1, none⟩ = some (.slice c.ac c.nc c.cc) := HK.out.cell 1
      have c2 : wr.cell? ⟨w.heap.size, 2, none⟩ = some (.int .i64 c.wk) := HK.out.cell 2
      have c3 : wr.cell? ⟨w.heap.size, 3, none⟩ = some (.int .i64 c.cp) := HK.out.cell 3
      have c4 : wr.cell? ⟨w.heap.size, 4, none⟩ = some (.int .i64 c.sl) := HK.out.cell 4
      have c5 : wr.cell? ⟨w.heap.size, 5, none⟩ = some (.int .i64 c.ba) := HK.out.cell 5
      have c6 : wr.cell? ⟨w.heap.size, 6, none⟩ = some (.int .i64 c.le) := HK.out.cell 6
      have c7 : wr.cell? ⟨w.heap.size, 7, none⟩ = some (.int .i64 c.he) := HK.out.cell 7
      have c8 : wr.cell? ⟨w.heap.size, 8, none⟩ = some (.int .i64 c.fi) := HK.out.cell 8
      have c9 : wr.cell? ⟨w.heap.size, 9, none⟩ = some (.int .i64 c.ca) := HK.out.cell 9
      have c10 : wr.cell? ⟨w.heap.size, 10, none⟩ = some (.int .i64 c.ji) := HK.out.cell 10
      have c11 : wr.cell? ⟨w.heap.size, 11, none⟩ = some (.int .i64 c.ne) := HK.out.cell 11
      go_wp2_with fail
      refine (HFZ.out fn bn wr).mono ?_
      rintro e W3 ⟨rfl, hb⟩
      have HB3 := Lib.hid (HB.out.trans (hb.mono HB.out.size))
      clear hb HB HK c0 c1 c2 c3 c4 c5 c6 c7 c8 c9 c10 c11
      go_wp2_with fail
      refine (awake_any _).mono ?_
      rintro e W9 ⟨rfl, hb⟩
      have HB9 := Lib.hid (HB3.out.trans (hb.mono HB3.out.size))
      clear hb
      go_wp2_with fail
      go_ret
      exact ⟨rfl, HB9.out⟩
end Go.Proofs.Ytjdanngkmkgidaa
