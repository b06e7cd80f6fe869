/- backoff.Most, fair.Bound, fair.Good. -/
import Derived.Test.YtjdanngkmkgidaaCfg2
import Derived.Deep.RegionHeld3
namespace Go.Proofs.Ytjdanngkmkgidaa
open Go.RowKit
set_option linter.unusedVariables false

theorem flip_same {P : Program} {f : Nat} {args : Array Value} {w : World} {v : Value} (h : Calls P f args w fun e w' => e = .returned v ∧ w = w') : Calls P f args w fun e w' => e = .returned v ∧ w' = w :=
  h.mono fun e w' hh => ⟨hh.1, hh.2.symm⟩
def clipI (x : Int) : Int := min (max x 0) 1000
set_option maxRecDepth 100000 in
theorem clip_any (x : Int) (w : World) : Calls Try.prog 48 #[.int .i64 x] w fun e w' => e = .returned (.int .i64 (clipI x)) ∧ w = w' := by
  obtain ⟨R, hR⟩ : ∃ R, clipI x = R := ⟨_, rfl⟩
  rw [hR]
  obtain ⟨p, hp⟩ : ∃ p, (if x < 0 then 0 else x) = p := ⟨_, rfl⟩
  have hq : (if 1000 < p then 1000 else p) = R := by rw [← hR, ← hp]; unfold clipI; split <;> split <;> omega
  clear hR
  go_enter Try.func48, Try.ntmps48
  go_wp2
  go_ret
  exact ⟨rfl, rfl⟩
def mostC (c : CfgM) : Int := clipI c.ca + clipI c.ji
theorem clipI_bd (x : Int) : 0 ≤ clipI x ∧ clipI x ≤ 1000 := by unfold clipI; omega
set_option maxRecDepth 100000 in
set_option maxHeartbeats 4000000 in
theorem most_any (c : CfgM) (w : World) :
    Calls Try.prog 31 #[c.val] w fun e w' => e = .returned (.int .i64 (mostC c)) ∧ Below w.heap.size w w' := by
  unfold CfgM.val
  obtain ⟨R, hR⟩ : ∃ R, mostC c = R := ⟨_, rfl⟩
  rw [hR]
  unfold mostC at hR
  have b1 := clipI_bd c.ca
  have b2 := clipI_bd c.ji
  have HC1 := Lib.hid (fun w => flip_same (clip_any c.ca w))
  have HC2 := Lib.hid (fun w => flip_same (clip_any c.ji w))
  obtain ⟨p, hp⟩ : ∃ p, clipI c.ca = p := ⟨_, rfl⟩
  obtain ⟨q, hq⟩ : ∃ q, clipI c.ji = q := ⟨_, rfl⟩
  rw [hp] at hR b1 HC1
  rw [hq] at hR b2 HC2
  obtain ⟨b3, b4⟩ := b1
  obtain ⟨b5, b6⟩ := b2
  clear hp hq
  go_enter Try.func31, Try.ntmps31
  go_wp2_with fail
  have HK := Lib.hid (show Blk (w.alloc (.cells #[.slice c.aw c.nw c.cw, .slice c.ac c.nc c.cc, .int .i64 c.wk, .int .i64 c.cp, .int .i64 c.sl, .int .i64 c.ba, .int .i64 c.le, .int .i64 c.he, .int .i64 c.fi, .int .i64 c.ca, .int .i64 c.ji, .int .i64 c.ne] 56)) w.heap.size 56 [.slice c.aw c.nw c.cw, .slice c.ac c.nc c.cc, .int .i64 c.wk, .int .i64 c.cp, .int .i64 c.sl, .int .i64 c.ba, .int .i64 c.le, .int .i64 c.he, .int .i64 c.fi, .int .i64 c.ca, .int .i64 c.ji, .int .i64 c.ne] from heap_alloc_new w _)
  have HB := Lib.hid ((Below.refl _ w).alloc (Nat.le_refl _) (.cells #[.slice c.aw c.nw c.cw, .slice c.ac c.nc c.cc, .int .i64 c.wk, .int .i64 c.cp, .int .i64 c.sl, .int .i64 c.ba, .int .i64 c.le, .int .i64 c.he, .int .i64 c.fi, .int .i64 c.ca, .int .i64 c.ji, .int .i64 c.ne] 56))
  generalize (w.alloc (.cells #[.slice c.aw c.nw c.cw, .slice c.ac c.nc c.cc, .int .i64 c.wk, .int .i64 c.cp, .int .i64 c.sl, .int .i64 c.ba, .int .i64 c.le, .int .i64 c.he, .int .i64 c.fi, .int .i64 c.ca, .int .i64 c.ji, .int .i64 c.ne] 56)) = W at *
  have c9 : W.cell? ⟨w.heap.size, 9, none⟩ = some (.int .i64 c.ca) := HK.out.cell 9
  have c10 : W.cell? ⟨w.heap.size, 10, none⟩ = some (.int .i64 c.ji) := HK.out.cell 10
  clear HK
  go_quiet (first | (go_at_call 48; first | exact Calls.quiet_of_same (HC1.out _) | exact Calls.quiet_of_same (HC2.out _)))
  go_wp2_with fail
  go_ret
  exact ⟨rfl, below_drewN HB.out _⟩
theorem wr_in (x : Int) (h1 : -9223372036854775808 ≤ x) (h2 : x ≤ 9223372036854775807) : IntKind.i64.wrap x = x := by
  simp only [IntKind.wrap, IntKind.bits, IntKind.signed]
  simp
  omega
def eachC (c : CfgM) : Int := c.cp * (mostC c + 2) + c.sl * shardsC c + 6
def boundC (c : CfgM) (n : Int) : Int := if mayC c = true ∧ 1 ≤ n ∧ n ≤ 10 then 4 + (n + 1) * eachC c else 0
theorem mul_bd {a b A B : Int} (h1 : 0 ≤ a) (h2 : a ≤ A) (h3 : 0 ≤ b) (h4 : b ≤ B) : 0 ≤ a * b ∧ a * b ≤ A * B :=
  ⟨Int.mul_nonneg h1 h3, Int.mul_le_mul h2 h4 h3 (by omega)⟩
theorem eachC_bd {c : CfgM} (h : mayC c = true) : 0 ≤ c.cp * (mostC c + 2) ∧ c.cp * (mostC c + 2) ≤ 10000 ∧ 0 ≤ c.sl * shardsC c ∧ c.sl * shardsC c ≤ 100 := by
  obtain ⟨m1, m2, m3, m4, m5, m6, m7, m8, -⟩ := may_of h
  have b1 := clipI_bd c.ca
  have b2 := clipI_bd c.ji
  have b3 := shardsC_bd c
  have p1 := mul_bd (a := c.cp) (b := mostC c + 2) (A := 3) (B := 2002) (by omega) (by omega) (by unfold mostC; omega) (by unfold mostC; omega)
  have p2 := mul_bd (a := c.sl) (b := shardsC c) (A := 4) (B := 6) (by omega) (by omega) (by omega) (by omega)
  omega
set_option maxRecDepth 100000 in
set_option maxHeartbeats 4000000 in
theorem bound_any (c : CfgM) (n : Int) (w : World) (hr : CfgOK w c) :
    Calls Try.prog 30 #[c.val, .int .i64 n] w fun e w' => e = .returned (.int .i64 (boundC c n)) ∧ Below w.heap.size w w' := by
  have HR := Lib.hid hr
  clear hr
  have HMO := Lib.hid (fun w => most_any c w)
  have HSA := Lib.hid (fun w h => shards_any c w h)
  have HMA := Lib.hid (fun w h => may_any c w h)
  obtain ⟨R, hR⟩ : ∃ R, boundC c n = R := ⟨_, rfl⟩
  rw [hR]
  have HRR := Lib.hid hR
  clear hR
  unfold CfgM.val at HMO HSA HMA ⊢
  go_enter Try.func30, Try.ntmps30
  go_wp2_with fail
  have HK := Lib.hid (show Blk (w.alloc (.cells #[.slice c.aw c.nw c.cw, .slice c.ac c.nc c.cc, .int .i64 c.wk, .int .i64 c.cp, .int .i64 c.sl, .int .i64 c.ba, .int .i64 c.le, .int .i64 c.he, .int .i64 c.fi, .int .i64 c.ca, .int .i64 c.ji, .int .i64 c.ne] 56)) w.heap.size 56 [.slice c.aw c.nw c.cw, .slice c.ac c.nc c.cc, .int .i64 c.wk, .int .i64 c.cp, .int .i64 c.sl, .int .i64 c.ba, .int .i64 c.le, .int .i64 c.he, .int .i64 c.fi, .int .i64 c.ca, .int .i64 c.ji, .int .i64 c.ne] from heap_alloc_new w _)
  have HB := Lib.hid ((Below.refl _ w).alloc (Nat.le_refl _) (.cells #[.slice c.aw c.nw c.cw, .slice c.ac c.nc c.cc, .int .i64 c.wk, .int .i64 c.cp, .int .i64 c.sl, .int .i64 c.ba, .int .i64 c.le, .int .i64 c.he, .int .i64 c.fi, .int .i64 c.ca, .int .i64 c.ji, .int .i64 c.ne] 56))
  generalize (w.alloc (.cells #[.slice c.aw c.nw c.cw, .slice c.ac c.nc c.cc, .int .i64 c.wk, .int .i64 c.cp, .int .i64 c.sl, .int .i64 c.ba, .int .i64 c.le, .int .i64 c.he, .int .i64 c.fi, .int .i64 c.ca, .int .i64 c.ji, .int .i64 c.ne] 56)) = W at *
  have c0 : W.cell? ⟨w.heap.size, 0, none⟩ = some (.slice c.aw c.nw c.cw) := HK.out.cell 0
  have c1 : W.cell? ⟨w.heap.size, 1, none⟩ = some (.slice c.ac c.nc c.cc) := HK.out.cell 1
  have c2 : W.cell? ⟨w.heap.size, 2, none⟩ = some (.int .i64 c.wk) := HK.out.cell 2
  have c3 : W.cell? ⟨w.heap.size, 3, none⟩ = some (.int .i64 c.cp) := HK.out.cell 3
  have c4 : W.cell? ⟨w.heap.size, 4, none⟩ = some (.int .i64 c.sl) := HK.out.cell 4
  have c5 : W.cell? ⟨w.heap.size, 5, none⟩ = some (.int .i64 c.ba) := HK.out.cell 5
  have c6 : W.cell? ⟨w.heap.size, 6, none⟩ = some (.int .i64 c.le) := HK.out.cell 6
  have c7 : W.cell? ⟨w.heap.size, 7, none⟩ = some (.int .i64 c.he) := HK.out.cell 7
  have c8 : W.cell? ⟨w.heap.size, 8, none⟩ = some (.int .i64 c.fi) := HK.out.cell 8
  have c9 : W.cell? ⟨w.heap.size, 9, none⟩ = some (.int .i64 c.ca) := HK.out.cell 9
  have c10 : W.cell? ⟨w.heap.size, 10, none⟩ = some (.int .i64 c.ji) := HK.out.cell 10
  have c11 : W.cell? ⟨w.heap.size, 11, none⟩ = some (.int .i64 c.ne) := HK.out.cell 11
  refine (HMA.out W (HR.out.below HB.out rfl)).mono ?_
  rintro e W1 ⟨rfl, hb⟩
  have HB1 := Lib.hid (HB.out.trans (hb.mono HB.out.size))
  have HK1 := Lib.hid (HK.out.below hb HK.out.lt)
  clear hb HB HK
  clear c0 c1 c2 c3 c4 c5 c6 c7 c8 c9 c10 c11
  cases hm : mayC c
  case false =>
    obtain rfl : R = 0 := by rw [← HRR.out]; unfold boundC; rw [if_neg (by simp [hm])]
    clear hm
    go_wp2_with fail
    go_ret
    exact ⟨rfl, HB1.out⟩
  by_cases h1 : n < 1
  · obtain rfl : R = 0 := by rw [← HRR.out]; unfold boundC; rw [if_neg (by omega)]
    clear hm
    go_wp2_with fail
    go_ret
    exact ⟨rfl, HB1.out⟩
  by_cases h2 : 10 < n
  · obtain rfl : R = 0 := by rw [← HRR.out]; unfold boundC; rw [if_neg (by omega)]
    clear hm
    have d1 : decide (n < 1) = false := by simpa using h1
    go_wp2_with fail
    go_ret
    exact ⟨rfl, HB1.out⟩
  have hR := HRR.out
  unfold boundC at hR
  rw [if_pos ⟨hm, by omega, by omega⟩] at hR
  unfold eachC at hR
  obtain ⟨e1, e2, e3, e4⟩ := eachC_bd hm
  have b1 := clipI_bd c.ca
  have b2 := clipI_bd c.ji
  have b3 := shardsC_bd c
  have b4 : 0 ≤ mostC c + 2 ∧ mostC c + 2 ≤ 2002 := by unfold mostC; omega
  clear hm b1 b2 HRR HMA
  obtain ⟨mo, hmo⟩ : ∃ x, mostC c = x := ⟨_, rfl⟩
  obtain ⟨sh, hsh⟩ : ∃ x, shardsC c = x := ⟨_, rfl⟩
  rw [hmo] at hR e1 e2 HMO b4
  rw [hsh] at hR e3 e4 HSA b3
  clear hmo hsh
  have c3 : W1.cell? ⟨w.heap.size, 3, none⟩ = some (.int .i64 c.cp) := HK1.out.cell 3
  have c4 : W1.cell? ⟨w.heap.size, 4, none⟩ = some (.int .i64 c.sl) := HK1.out.cell 4
  obtain ⟨p1, hp1⟩ : ∃ x, c.cp * (mo + 2) = x := ⟨_, rfl⟩
  obtain ⟨p2, hp2⟩ : ∃ x, c.sl * sh = x := ⟨_, rfl⟩
  rw [hp1] at hR e1 e2
  rw [hp2] at hR e3 e4
  obtain ⟨p3, hp3⟩ : ∃ x, (n + 1) * (p1 + p2 + 6) = x := ⟨_, rfl⟩
  have q3 := mul_bd (a := n + 1) (b := p1 + p2 + 6) (A := 11) (B := 10106) (by omega) (by omega) (by omega) (by omega)
  rw [hp3] at hR q3
  obtain ⟨q1, q2⟩ := q3
  obtain ⟨b5, b6⟩ := b4
  obtain ⟨b7, b8⟩ := b3
  have HGB : RowKit.Hid (Below W1.heap.size W1 W1.drew) := below_drewN (Below.refl _ _) 1
  have HLT := Lib.hid HK1.out.lt
  have d1 : decide (n < 1) = false := by simpa using h1
  have d2 : decide (10 < n) = false := by simpa using h2
  have h3 : n ≤ 10 := by omega
  have h4 : 1 ≤ n := by omega
  clear h1 h2 c3 c4
  go_upto_region 3 with fail
  go_region_held3 (fun w' => w'.cell? ⟨w.heap.size, 0, none⟩ = some (.slice c.aw c.nw c.cw) ∧ w'.cell? ⟨w.heap.size, 1, none⟩ = some (.slice c.ac c.nc c.cc) ∧ w'.cell? ⟨w.heap.size, 2, none⟩ = some (.int .i64 c.wk) ∧ w'.cell? ⟨w.heap.size, 3, none⟩ = some (.int .i64 c.cp) ∧ w'.cell? ⟨w.heap.size, 4, none⟩ = some (.int .i64 c.sl) ∧ w'.cell? ⟨w.heap.size, 5, none⟩ = some (.int .i64 c.ba) ∧ w'.cell? ⟨w.heap.size, 6, none⟩ = some (.int .i64 c.le) ∧ w'.cell? ⟨w.heap.size, 7, none⟩ = some (.int .i64 c.he) ∧ w'.cell? ⟨w.heap.size, 8, none⟩ = some (.int .i64 c.fi) ∧ w'.cell? ⟨w.heap.size, 9, none⟩ = some (.int .i64 c.ca) ∧ w'.cell? ⟨w.heap.size, 10, none⟩ = some (.int .i64 c.ji) ∧ w'.cell? ⟨w.heap.size, 11, none⟩ = some (.int .i64 c.ne)) (exact ⟨(HK1.out.below HGB.out HLT.out).cell 0, (HK1.out.below HGB.out HLT.out).cell 1, (HK1.out.below HGB.out HLT.out).cell 2, (HK1.out.below HGB.out HLT.out).cell 3, (HK1.out.below HGB.out HLT.out).cell 4, (HK1.out.below HGB.out HLT.out).cell 5, (HK1.out.below HGB.out HLT.out).cell 6, (HK1.out.below HGB.out HLT.out).cell 7, (HK1.out.below HGB.out HLT.out).cell 8, (HK1.out.below HGB.out HLT.out).cell 9, (HK1.out.below HGB.out HLT.out).cell 10, (HK1.out.below HGB.out HLT.out).cell 11⟩) (first | (go_at_call 31; refine (HMO.out _).mono ?_; rintro e u ⟨rfl, hb⟩; have HSN := Lib.hid (HGB.out.trans (hb.mono HGB.out.size)); clear HGB; have HGB := HSN; clear HSN; clear hb) | (go_at_call 32; refine (HSA.out _ (HR.out.below (HB1.out.trans (HGB.out.mono HB1.out.size)) rfl)).mono ?_; rintro e u ⟨rfl, hb⟩; have HSN := Lib.hid (HGB.out.trans (hb.mono HGB.out.size)); clear HGB; have HGB := HSN; clear HSN; clear hb))
  all_goals
    go_wp2_with fail
    go_ret
    exact ⟨ret_int (by rw [wr_in (n + 1) (by omega) (by omega), wr_in (mo + 2) (by omega) (by omega), hp1, wr_in p1 (by omega) (by omega), wr_in p2 (by omega) (by omega), wr_in (p1 + p2) (by omega) (by omega), wr_in (p1 + p2 + 6) (by omega) (by omega), hp3, wr_in p3 (by omega) (by omega), wr_in (4 + p3) (by omega) (by omega), hR]), HB1.out.trans (HGB.out.mono HB1.out.size)⟩
end Go.Proofs.Ytjdanngkmkgidaa
