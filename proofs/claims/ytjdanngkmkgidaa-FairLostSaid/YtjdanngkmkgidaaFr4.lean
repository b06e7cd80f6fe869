/- fair.Window. -/
import Derived.Test.YtjdanngkmkgidaaFr3
namespace Go.Proofs.Ytjdanngkmkgidaa
open Go.RowKit
set_option linter.unusedVariables false

def WindowB (c : CfgM) (l : List RecM) (fr b : Int) (good : List Int) : Bool := decide (1 ≤ b ∧ 0 ≤ fr ∧ fr + b ≤ l.length) && goodC c good && windowB c.wk.toNat ((l.drop fr.toNat).take b.toNat) good (wayB l good)
theorem Recs.cut {w : World} {b off n c : Nat} {l : List RecM} (h : Recs w (some ⟨b, off, none⟩) n c l) (i k : Nat) (hi : i + k ≤ n) : Recs w (some ⟨b, off + i * 12, none⟩) k (c - i) ((l.drop i).take k) :=
  ⟨(h.rd.drop i (by omega) (off + i * 12) (fun _ => rfl)).take k (by omega), fun r hr => h.all r (List.mem_of_mem_drop (List.mem_of_mem_take hr))⟩
theorem RecIn.len {w : World} {r : RecM} (h : RecIn w r) : r.sent.length = r.sn := h.sent.1
theorem Recs.some_ {w : World} {a : Option Addr} {n c : Nat} {l : List RecM} (h : Recs w a n c l) (hn : 0 < n) : ∃ b off, a = some ⟨b, off, none⟩ ∧ b < w.heap.size := by
  have hl := h.rd.1
  obtain ⟨x, hx⟩ : ∃ x, l[0]? = some x := ⟨_, List.getElem?_eq_getElem (by omega)⟩
  obtain ⟨b, off, e, hb, _⟩ := h.rd.at_ hx
  exact ⟨b, off, e, hb⟩
set_option maxRecDepth 100000 in
set_option maxHeartbeats 8000000 in
theorem Window_any (c : CfgM) (a : Option Addr) (n cap : Nat) (l : List RecM) (fr b : Int) (ag : Option Addr) (ng cg : Nat) (good : List Int) (w : World) (hc : CfgOK w c) (hr : Recs w a n cap l) (hg : Rd w ag ng cg (ints good))
    (h1 : l.length ≤ 1000) (h2 : ∀ r ∈ l, r.sent.length ≤ 1000) (h3 : good.length ≤ 1000) (hfr : -9223372036854775808 ≤ fr ∧ fr ≤ 9223372036854775807) :
    Calls Try.prog 34 #[c.val, .slice a n cap, .int .i64 fr, .int .i64 b, .slice ag ng cg] w fun e w' => e = .returned (.bool (WindowB c l fr b good)) ∧ Below w.heap.size w w' := by
  have hn := hr.rd.1
  have hcm := hr.rd.2.2.1
  have hcap := hr.rd.2.1
  unfold maxLen at hcm
  have HC := Lib.hid hc
  have HR := Lib.hid hr
  have HG := Lib.hid hg
  have HGOOD := Lib.hid (fun w h1 h2 => fgood_any c ag ng cg good w h1 h2)
  have HWAY := Lib.hid (fun w h k => ways_any a n cap l ag ng cg good w h k h1 h2 h3)
  have HWIN := Lib.hid (fun (a : Option Addr) (n cap : Nat) (l : List RecM) (bm q : Nat) (f : Int → Bool) (W : Nat) (w : World) x1 x2 x3 x4 x5 => window_any c a n cap l ag ng cg good bm q f W w x1 x2 x3 x4 x5)
  obtain ⟨R, hR⟩ : ∃ R, WindowB c l fr b good = R := ⟨_, rfl⟩
  rw [hR]
  have HRR := Lib.hid hR
  have HL := Lib.hid hn
  rw [hn] at h1
  obtain ⟨hf1, hf2⟩ := hfr
  clear hc hr hg h2 h3 hR hn
  unfold CfgM.val at HGOOD HWIN ⊢
  by_cases q1 : b < 1
  · obtain rfl : R = false := by rw [← HRR.out]; unfold WindowB; rw [decide_eq_false (by omega)]; rfl
    clear HWIN HWAY HGOOD
    go_enter Try.func34, Try.ntmps34
    go_wp2_with fail
    go_ret
    exact ⟨rfl, (Below.refl _ w).alloc (Nat.le_refl _) _⟩
  have d1 : decide (b < 1) = false := by simpa using q1
  by_cases q2 : fr < 0
  · obtain rfl : R = false := by rw [← HRR.out]; unfold WindowB; rw [decide_eq_false (by omega)]; rfl
    clear HWIN HWAY HGOOD q1
    go_enter Try.func34, Try.ntmps34
    go_wp2_with fail
    go_ret
    exact ⟨rfl, (Below.refl _ w).alloc (Nat.le_refl _) _⟩
  have d2 : decide (fr < 0) = false := by simpa using q2
  by_cases q3 : (n : Int) < fr
  · obtain rfl : R = false := by rw [← HRR.out]; unfold WindowB; rw [decide_eq_false (by have := HL.out; omega)]; rfl
    have d3 : decide ((n : Int) < fr) = true := by simpa using q3
    clear HWIN HWAY HGOOD q1 q2 q3
    go_enter Try.func34, Try.ntmps34
    go_wp2_with fail
    go_ret
    exact ⟨rfl, (Below.refl _ w).alloc (Nat.le_refl _) _⟩
  have d3 : decide ((n : Int) < fr) = false := by simpa using q3
  obtain ⟨fn, rfl⟩ := Int.eq_ofNat_of_zero_le (show 0 ≤ fr by omega)
  obtain ⟨bn, rfl⟩ := Int.eq_ofNat_of_zero_le (show 0 ≤ b by omega)
  by_cases q4 : (n : Int) - (fn : Int) < (bn : Int)
  · obtain rfl : R = false := by rw [← HRR.out]; unfold WindowB; rw [decide_eq_false (by have := HL.out; omega)]; rfl
    have d4 : decide ((n : Int) - (fn : Int) < (bn : Int)) = true := by simpa using q4
    have q3' : (fn : Int) ≤ (n : Int) := by omega
    clear HWIN HWAY HGOOD q1 q2 q3 q4
    go_enter Try.func34, Try.ntmps34
    go_wp2_with fail
    go_ret
    exact ⟨rfl, (Below.refl _ w).alloc (Nat.le_refl _) _⟩
  have d4 : decide ((n : Int) - (fn : Int) < (bn : Int)) = false := by simpa using q4
  have q5 : 1 ≤ bn := by omega
  have q6 : fn + bn ≤ n := by omega
  have hR := HRR.out
  unfold WindowB at hR
  rw [decide_eq_true (by have := HL.out; omega), Bool.true_and, Int.toNat_natCast, Int.toNat_natCast] at hR
  obtain ⟨ba, off, rfl, hba⟩ := HR.out.some_ (by omega)
  have HBA := Lib.hid hba
  have HRQ := Lib.hid hR
  clear q1 q2 q3 q4 HRR hR hba
  go_enter Try.func34, Try.ntmps34
  go_upto_region 1 with fail
  have HK := Lib.hid (show CfgB (w.alloc (.cells #[.slice c.aw c.nw c.cw, .slice c.ac c.nc c.cc, .int .i64 c.wk, .int .i64 c.cp, .int .i64 c.sl, .int .i64 c.ba, .int .i64 c.le, .int .i64 c.he, .int .i64 c.fi, .int .i64 c.ca, .int .i64 c.ji, .int .i64 c.ne] 56)) w.heap.size c from heap_alloc_new w _)
  have HB := Lib.hid ((Below.refl _ w).alloc (Nat.le_refl _) (.cells #[.slice c.aw c.nw c.cw, .slice c.ac c.nc c.cc, .int .i64 c.wk, .int .i64 c.cp, .int .i64 c.sl, .int .i64 c.ba, .int .i64 c.le, .int .i64 c.he, .int .i64 c.fi, .int .i64 c.ca, .int .i64 c.ji, .int .i64 c.ne] 56))
  generalize (w.alloc (.cells #[.slice c.aw c.nw c.cw, .slice c.ac c.nc c.cc, .int .i64 c.wk, .int .i64 c.cp, .int .i64 c.sl, .int .i64 c.ba, .int .i64 c.le, .int .i64 c.he, .int .i64 c.fi, .int .i64 c.ca, .int .i64 c.ji, .int .i64 c.ne] 56)) = W at *
  have c0 : W.cell? ⟨w.heap.size, 0, none⟩ = some (.slice c.aw c.nw c.cw) := HK.out.cell 0
  have c1 : W.cell? ⟨w.heap.size, 1, none⟩ = some (.slice c.ac c.nc c.cc) := HK.out.cell 1
  have c2 : W.cell? ⟨w.heap.size, 2, none⟩ = some (.int .i64 c.wk) := HK.out.cell 2
  have c3 : W.cell? ⟨w.heap.size, 3, none⟩ = some (.int .i64 c.cp) := HK.out.cell 3
  have c4 : W.cell? ⟨w.heap.size, 4, none⟩ = some (.int .i64 c.sl) := HK.out.cell 4
  have c5 : W.cell? ⟨w.heap.size, 5, none⟩ = some (.int .i64 c.ba) := HK.out.cell 5
  have c6 : W.cell? ⟨w.heap.size, 6, none⟩ = some (.int .i64 c.le) := HK.out.cell 6
  have c7 : W.cell? ⟨w.heap.size, 7, none⟩ = some (.int .i64 c.he) := HK.out.cell 7
  have c8 : W.cell? ⟨w.heap.size, 8, none⟩ = some (.int .i64 c.fi) := HK.out.cell 8
  have c9 : W.cell? ⟨w.heap.size, 9, none⟩ = some (.int .i64 c.ca) := HK.out.cell 9
  have c10 : W.cell? ⟨w.heap.size, 10, none⟩ = some (.int .i64 c.ji) := HK.out.cell 10
  have c11 : W.cell? ⟨w.heap.size, 11, none⟩ = some (.int .i64 c.ne) := HK.out.cell 11
  go_wp2_with fail
  refine (HGOOD.out W (HC.out.below HB.out rfl) (HG.out.below HB.out rfl)).mono ?_
  rintro e W1 ⟨rfl, hb⟩
  have HB1 := Lib.hid (HB.out.trans (hb.mono HB.out.size))
  have HK1 := Lib.hid (show CfgB W1 w.heap.size c from Blk.below HK.out hb (Blk.lt HK.out))
  clear hb HB HK
  clear c0 c1 c2 c3 c4 c5 c6 c7 c8 c9 c10 c11 HGOOD
  have hmay : goodC c good = true → ∃ wn : Nat, c.wk = (wn : Int) ∧ wn ≤ 5 := fun h => by
    have hm : mayC c = true := by
      unfold goodC at h
      cases hm : mayC c
      · rw [hm] at h; cases h
      · rfl
    obtain ⟨_, m1, m2, _⟩ := may_of hm
    obtain ⟨k, hk⟩ := Int.eq_ofNat_of_zero_le (show 0 ≤ c.wk by omega)
    exact ⟨k, hk, by omega⟩
  have HMAY := Lib.hid hmay
  clear hmay
  cases hgd : goodC c good
  · rw [hgd] at HRQ
    obtain rfl : R = false := HRQ.out.symm
    clear HRQ hgd HMAY HWIN HWAY
    go_wp2_with fail
    go_ret
    exact ⟨rfl, HB1.out⟩
  obtain ⟨wn, hwn, hw5⟩ := HMAY.out hgd
  rw [hgd, hwn, Bool.true_and, Int.toNat_natCast] at HRQ
  have HWN := Lib.hid hwn
  clear hgd HMAY hwn
  have HGB : RowKit.Hid (Below W1.heap.size W1 W1.drew) := below_drewN (Below.refl _ _) 1
  have HLT := Lib.hid (Blk.lt HK1.out)
  have HR1 := Lib.hid (HR.out.below HB1.out rfl)
  have HG1 := Lib.hid (HG.out.below HB1.out rfl)
  clear HR HG
  obtain ⟨en, hen⟩ : ∃ e, fn + bn = e := ⟨_, rfl⟩
  have w1 : IntKind.i64.wrap ((fn : Int) + (bn : Int)) = (en : Int) := by rw [wr_in _ (by omega) (by omega)]; omega
  have k1 : (0 : Int) ≤ (fn : Int) := by omega
  have k2 : (fn : Int) ≤ (en : Int) := by omega
  have k3 : (en : Int) ≤ (cap : Int) := by omega
  have k4 : en - fn = bn := by omega
  have k5 : fn ≤ en := by omega
  have k6 : en ≤ cap := by omega
  have k7 : fn ≠ cap := by omega
  have k8 : fn < cap := by omega
  have hsl : cap - fn ≠ 0 := by omega
  have HEN := Lib.hid hen
  clear hen
  go_upto_region 3 with fail
  go_region_held3 (fun w' => w'.cell? ⟨w.heap.size, 0, none⟩ = some (.slice c.aw c.nw c.cw) ∧ w'.cell? ⟨w.heap.size, 1, none⟩ = some (.slice c.ac c.nc c.cc) ∧ w'.cell? ⟨w.heap.size, 2, none⟩ = some (.int .i64 c.wk) ∧ w'.cell? ⟨w.heap.size, 3, none⟩ = some (.int .i64 c.cp) ∧ w'.cell? ⟨w.heap.size, 4, none⟩ = some (.int .i64 c.sl) ∧ w'.cell? ⟨w.heap.size, 5, none⟩ = some (.int .i64 c.ba) ∧ w'.cell? ⟨w.heap.size, 6, none⟩ = some (.int .i64 c.le) ∧ w'.cell? ⟨w.heap.size, 7, none⟩ = some (.int .i64 c.he) ∧ w'.cell? ⟨w.heap.size, 8, none⟩ = some (.int .i64 c.fi) ∧ w'.cell? ⟨w.heap.size, 9, none⟩ = some (.int .i64 c.ca) ∧ w'.cell? ⟨w.heap.size, 10, none⟩ = some (.int .i64 c.ji) ∧ w'.cell? ⟨w.heap.size, 11, none⟩ = some (.int .i64 c.ne)) (exact ⟨(Blk.below HK1.out HGB.out HLT.out).cell 0, (Blk.below HK1.out HGB.out HLT.out).cell 1, (Blk.below HK1.out HGB.out HLT.out).cell 2, (Blk.below HK1.out HGB.out HLT.out).cell 3, (Blk.below HK1.out HGB.out HLT.out).cell 4, (Blk.below HK1.out HGB.out HLT.out).cell 5, (Blk.below HK1.out HGB.out HLT.out).cell 6, (Blk.below HK1.out HGB.out HLT.out).cell 7, (Blk.below HK1.out HGB.out HLT.out).cell 8, (Blk.below HK1.out HGB.out HLT.out).cell 9, (Blk.below HK1.out HGB.out HLT.out).cell 10, (Blk.below HK1.out HGB.out HLT.out).cell 11⟩) (first | (go_at_call 50; refine (HWAY.out _ (HR1.out.below HGB.out rfl) (HG1.out.below HGB.out rfl)).mono ?_; rintro e u ⟨m, rfl, hmb, hb⟩; have HMB := Lib.hid hmb; have HSN := Lib.hid (HGB.out.trans (hb.mono HGB.out.size)); clear HGB; have HGB := HSN; clear HSN; clear hb hmb) | (go_at_call 49; refine (HWIN.out _ _ _ _ _ _ _ wn _ ((HR1.out.below HGB.out rfl).cut fn bn q6) (HG1.out.below HGB.out rfl) HMB.out HWN.out hw5).mono ?_; rintro e u ⟨rfl, hb⟩; have HSN := Lib.hid (HGB.out.trans (hb.mono HGB.out.size)); clear HGB; have HGB := HSN; clear HSN; clear hb))
  all_goals
    rw [HRQ.out]
    go_wp2_with fail
    go_ret
    exact ⟨rfl, HB1.out.trans (HGB.out.mono HB1.out.size)⟩
end Go.Proofs.Ytjdanngkmkgidaa
