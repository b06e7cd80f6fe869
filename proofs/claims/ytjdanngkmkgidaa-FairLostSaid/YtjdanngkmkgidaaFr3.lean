/- fair.window. -/
import Derived.Test.YtjdanngkmkgidaaFr2
namespace Go.Proofs.Ytjdanngkmkgidaa
open Go.RowKit
set_option linter.unusedVariables false

def CfgB (w : World) (p : Nat) (c : CfgM) : Prop := Blk w p 56 [.slice c.aw c.nw c.cw, .slice c.ac c.nc c.cc, .int .i64 c.wk, .int .i64 c.cp, .int .i64 c.sl, .int .i64 c.ba, .int .i64 c.le, .int .i64 c.he, .int .i64 c.fi, .int .i64 c.ca, .int .i64 c.ji, .int .i64 c.ne]
def WnR (w : World) (c : CfgM) (W B p1 g bm : Nat) (l : List RecM) (good : List Int) (f : Int → Bool) (v10 v20 : Value) (wr : World) : Prop := ∃ i : Nat, i ≤ l.length ∧ v20 = .int .i64 i ∧ v10 = .bool ((l.take i).any isTick) ∧ RowKit.Hid ((l.take i).all (okR good f) = true) ∧ RowKit.Hid (Blk wr g 4 (bools (wokeL W (l.take i)))) ∧ RowKit.Hid (CfgB wr B c) ∧ RowKit.Hid (Blk wr p1 100 [.map (some bm)]) ∧ RowKit.Hid (Below w.heap.size w wr)
set_option maxRecDepth 100000 in
set_option maxHeartbeats 8000000 in
theorem window_any (c : CfgM) (a : Option Addr) (n cap : Nat) (l : List RecM) (ag : Option Addr) (ng cg : Nat) (good : List Int) (bm q : Nat) (f : Int → Bool) (W : Nat) (w : World) (hr : Recs w a n cap l) (hg : Rd w ag ng cg (ints good)) (hm : MapB w bm q f) (hW : c.wk = (W : Int)) (hW5 : W ≤ 5) :
    Calls Try.prog 49 #[c.val, .slice a n cap, .slice ag ng cg, .map (some bm)] w fun e w' => e = .returned (.bool (windowB W l good f)) ∧ Below w.heap.size w w' := by
  obtain ⟨i0, hi, hz0, hz1, hz2⟩ := info_parts info_bool
  have HI := Lib.hid hi
  have HZ0 := Lib.hid hz0
  have HZ1 := Lib.hid hz1
  have HZ2 := Lib.hid hz2
  clear hi hz0 hz1 hz2
  have hn := hr.rd.1
  subst hn
  have hcm := hr.rd.2.2.1
  have hcap := hr.rd.2.1
  unfold maxLen at hcm
  have HR := Lib.hid hr
  have HG := Lib.hid hg
  have HM := Lib.hid hm
  obtain ⟨R, hR⟩ : ∃ R, windowB W l good f = R := ⟨_, rfl⟩
  rw [hR]
  have HRR := Lib.hid hR
  have HWK := Lib.hid hW
  clear hr hg hm hR
  unfold CfgM.val
  rw [hW]
  clear hW
  go_enter Try.func49, Try.ntmps49
  go_upto_region 1 with fail
  have HK := Lib.hid (show Blk (w.alloc (.cells #[.slice c.aw c.nw c.cw, .slice c.ac c.nc c.cc, .int .i64 (W : Int), .int .i64 c.cp, .int .i64 c.sl, .int .i64 c.ba, .int .i64 c.le, .int .i64 c.he, .int .i64 c.fi, .int .i64 c.ca, .int .i64 c.ji, .int .i64 c.ne] 56)) w.heap.size 56 [.slice c.aw c.nw c.cw, .slice c.ac c.nc c.cc, .int .i64 (W : Int), .int .i64 c.cp, .int .i64 c.sl, .int .i64 c.ba, .int .i64 c.le, .int .i64 c.he, .int .i64 c.fi, .int .i64 c.ca, .int .i64 c.ji, .int .i64 c.ne] from heap_alloc_new w _)
  have HB := Lib.hid ((Below.refl _ w).alloc (Nat.le_refl _) (.cells #[.slice c.aw c.nw c.cw, .slice c.ac c.nc c.cc, .int .i64 (W : Int), .int .i64 c.cp, .int .i64 c.sl, .int .i64 c.ba, .int .i64 c.le, .int .i64 c.he, .int .i64 c.fi, .int .i64 c.ca, .int .i64 c.ji, .int .i64 c.ne] 56))
  have hsz : (w.alloc (.cells #[.slice c.aw c.nw c.cw, .slice c.ac c.nc c.cc, .int .i64 (W : Int), .int .i64 c.cp, .int .i64 c.sl, .int .i64 c.ba, .int .i64 c.le, .int .i64 c.he, .int .i64 c.fi, .int .i64 c.ca, .int .i64 c.ji, .int .i64 c.ne] 56)).heap.size = w.heap.size + 1 := by simp
  have HK2 := Lib.hid (HK.out.alloc (.cells #[.map (some bm)] 100))
  have HP := Lib.hid (show Blk ((w.alloc (.cells #[.slice c.aw c.nw c.cw, .slice c.ac c.nc c.cc, .int .i64 (W : Int), .int .i64 c.cp, .int .i64 c.sl, .int .i64 c.ba, .int .i64 c.le, .int .i64 c.he, .int .i64 c.fi, .int .i64 c.ca, .int .i64 c.ji, .int .i64 c.ne] 56)).alloc (.cells #[.map (some bm)] 100)) (w.heap.size + 1) 100 [.map (some bm)] from by rw [← hsz]; exact heap_alloc_new _ _)
  have HB2 := Lib.hid (HB.out.alloc (by simp) (.cells #[.map (some bm)] 100))
  have HZ := Lib.hid (show w.heap.size + 2 ≤ ((w.alloc (.cells #[.slice c.aw c.nw c.cw, .slice c.ac c.nc c.cc, .int .i64 (W : Int), .int .i64 c.cp, .int .i64 c.sl, .int .i64 c.ba, .int .i64 c.le, .int .i64 c.he, .int .i64 c.fi, .int .i64 c.ca, .int .i64 c.ji, .int .i64 c.ne] 56)).alloc (.cells #[.map (some bm)] 100)).heap.size from by simp)
  clear HK HB hsz
  generalize ((w.alloc (.cells #[.slice c.aw c.nw c.cw, .slice c.ac c.nc c.cc, .int .i64 (W : Int), .int .i64 c.cp, .int .i64 c.sl, .int .i64 c.ba, .int .i64 c.le, .int .i64 c.he, .int .i64 c.fi, .int .i64 c.ca, .int .i64 c.ji, .int .i64 c.ne] 56)).alloc (.cells #[.map (some bm)] 100)) = W0 at *
  have c2 : W0.cell? ⟨w.heap.size, 2, none⟩ = some (.int .i64 (W : Int)) := HK2.out.cell 2
  have hz := HZ.out
  go_wp2_with (at_make; refine wpList_make_full W0 rfl _ _ 116 rfl W0.heap.size 4 i0 (.bool false) 1 Try.underlying116 HI.out HZ0.out HZ1.out .i64 .i64 _ _ (W + 1) rfl rfl (by omega) (by omega) (by rw [HZ2.out]; omega) (by unfold maxLen; omega) (Nat.le_refl _) ?_; intro w1 hown1 hg1; have HO1 := Lib.hid (blk_full1 hown1); have HW1 := Lib.hid (HB2.out.grown hg1 (by omega) (fun k hk => by cases hk)); have HK1 := Lib.hid (show Blk w1 w.heap.size 56 [.slice c.aw c.nw c.cw, .slice c.ac c.nc c.cc, .int .i64 (W : Int), .int .i64 c.cp, .int .i64 c.sl, .int .i64 c.ba, .int .i64 c.le, .int .i64 c.he, .int .i64 c.fi, .int .i64 c.ca, .int .i64 c.ji, .int .i64 c.ne] from (hg1.block _ HK2.out.lt (by simp)).trans HK2.out); have HP1 := Lib.hid (show Blk w1 (w.heap.size + 1) 100 [.map (some bm)] from (hg1.block _ HP.out.lt (by simp)).trans HP.out); clear hown1 hg1)
  have HM1 : RowKit.Hid (Blk w1 W0.heap.size 4 (bools (wokeL W []))) := by
    have := HO1.out
    rw [show (Value.bool false).cells = #[.bool false] from rfl, Nat.mul_one, toList_madeCells_one] at this
    rw [wokeL_nil]; unfold bools RowKit.Hid; rw [List.map_replicate]; exact this
  have HK3 : RowKit.Hid (CfgB w1 w.heap.size c) := by
    have := HK1.out
    rw [← HWK.out] at this
    exact this
  have HGE := Lib.hid (show w.heap.size ≤ W0.heap.size from by omega)
  have HGN := Lib.hid (show W0.heap.size ≠ w.heap.size ∧ W0.heap.size ≠ w.heap.size + 1 from by omega)
  clear HO1 HK1 HK2 HP HB2 c2 HZ hz
  generalize W0.heap.size = g at *
  obtain ⟨p1, hp1⟩ : ∃ p, w.heap.size + 1 = p := ⟨_, rfl⟩
  rw [hp1] at HP1 HGN
  rw [hp1]
  have HPE := Lib.hid hp1
  clear hp1
  go_loopw [10, 20] (fun v10 v20 wr => WnR w c W w.heap.size p1 g bm l good f v10 v20 wr) (fun _ v _ => l.length - (intOf v).toNat)
  case atStart => exact ⟨0, Nat.zero_le _, rfl, rfl, rfl, HM1.out, HK3.out, HP1.out, HW1.out⟩
  case round =>
    clear HM1 HK3 HP1 HW1
    obtain ⟨i, hi, rfl, rfl, HA, HWO, HK, HP, HB⟩ := hrel
    by_cases hlt : i < l.length
    · obtain ⟨r, hx⟩ : ∃ r, l[i]? = some r := ⟨_, List.getElem?_eq_getElem hlt⟩
      have hmem : r ∈ l := List.mem_iff_getElem?.2 ⟨i, hx⟩
      obtain ⟨b, off, rfl, hbl, hc⟩ := (HR.out.below HB.out rfl).rd.at_ hx
      have e0 : wr.cell? ⟨b, off + i * 12, none⟩ = some (.int .i64 r.kind) := hc 0 (by decide)
      have e1 : wr.cell? ⟨b, off + i * 12 + 1, none⟩ = some (.int .i64 r.node) := hc 1 (by decide)
      have e2 : wr.cell? ⟨b, off + i * 12 + 2, none⟩ = some (.int .i64 r.at_) := hc 2 (by decide)
      have e3 : wr.cell? ⟨b, off + i * 12 + 3, none⟩ = some (.int .i64 r.x) := hc 3 (by decide)
      have e4 : wr.cell? ⟨b, off + i * 12 + 4, none⟩ = some (.string r.q) := hc 4 (by decide)
      have e5 : wr.cell? ⟨b, off + i * 12 + 5, none⟩ = some (.int .i64 r.qk) := hc 5 (by decide)
      have e6 : wr.cell? ⟨b, off + i * 12 + 6, none⟩ = some (.int .i64 r.qn) := hc 6 (by decide)
      have e7 : wr.cell? ⟨b, off + i * 12 + 7, none⟩ = some (.int .i64 r.ver) := hc 7 (by decide)
      have e8 : wr.cell? ⟨b, off + i * 12 + 8, none⟩ = some (.int .i64 r.id) := hc 8 (by decide)
      have e9 : wr.cell? ⟨b, off + i * 12 + 9, none⟩ = some (.slice r.sa r.sn r.sc) := hc 9 (by decide)
      have e10 : wr.cell? ⟨b, off + i * 12 + 10, none⟩ = some (.int .i64 r.got) := hc 10 (by decide)
      have e11 : wr.cell? ⟨b, off + i * 12 + 11, none⟩ = some (.slice r.la r.ln r.lc) := hc 11 (by decide)
      have HIN := Lib.hid (HR.out.all r hmem)
      have HX := Lib.hid hx
      have hz := HB.out.size
      clear hc hx hmem hbl
      go_upto_region 7 with fail
      have HQ0 := Lib.hid (show Blk (wr.alloc (.cells #[.int .i64 r.kind, .int .i64 r.node, .int .i64 r.at_, .int .i64 r.x, .string r.q, .int .i64 r.qk, .int .i64 r.qn, .int .i64 r.ver, .int .i64 r.id, .slice r.sa r.sn r.sc, .int .i64 r.got, .slice r.la r.ln r.lc] 70)) wr.heap.size 70 [.int .i64 r.kind, .int .i64 r.node, .int .i64 r.at_, .int .i64 r.x, .string r.q, .int .i64 r.qk, .int .i64 r.qn, .int .i64 r.ver, .int .i64 r.id, .slice r.sa r.sn r.sc, .int .i64 r.got, .slice r.la r.ln r.lc] from heap_alloc_new wr _)
      have HQ := Lib.hid (HQ0.out.alloc (.cells #[.int .i64 r.kind, .int .i64 r.node, .int .i64 r.at_, .int .i64 r.x, .string r.q, .int .i64 r.qk, .int .i64 r.qn] 67))
      have HE := Lib.hid (show Blk ((wr.alloc (.cells #[.int .i64 r.kind, .int .i64 r.node, .int .i64 r.at_, .int .i64 r.x, .string r.q, .int .i64 r.qk, .int .i64 r.qn, .int .i64 r.ver, .int .i64 r.id, .slice r.sa r.sn r.sc, .int .i64 r.got, .slice r.la r.ln r.lc] 70)).alloc (.cells #[.int .i64 r.kind, .int .i64 r.node, .int .i64 r.at_, .int .i64 r.x, .string r.q, .int .i64 r.qk, .int .i64 r.qn] 67)) (wr.heap.size + 1) 67 [.int .i64 r.kind, .int .i64 r.node, .int .i64 r.at_, .int .i64 r.x, .string r.q, .int .i64 r.qk, .int .i64 r.qn] from by rw [show wr.heap.size + 1 = (wr.alloc (.cells #[.int .i64 r.kind, .int .i64 r.node, .int .i64 r.at_, .int .i64 r.x, .string r.q, .int .i64 r.qk, .int .i64 r.qn, .int .i64 r.ver, .int .i64 r.id, .slice r.sa r.sn r.sc, .int .i64 r.got, .slice r.la r.ln r.lc] 70)).heap.size from by simp]; exact heap_alloc_new _ _)
      have HWO2 := Lib.hid ((HWO.out.alloc (.cells #[.int .i64 r.kind, .int .i64 r.node, .int .i64 r.at_, .int .i64 r.x, .string r.q, .int .i64 r.qk, .int .i64 r.qn, .int .i64 r.ver, .int .i64 r.id, .slice r.sa r.sn r.sc, .int .i64 r.got, .slice r.la r.ln r.lc] 70)).alloc (.cells #[.int .i64 r.kind, .int .i64 r.node, .int .i64 r.at_, .int .i64 r.x, .string r.q, .int .i64 r.qk, .int .i64 r.qn] 67))
      have HK2 := Lib.hid (show CfgB ((wr.alloc (.cells #[.int .i64 r.kind, .int .i64 r.node, .int .i64 r.at_, .int .i64 r.x, .string r.q, .int .i64 r.qk, .int .i64 r.qn, .int .i64 r.ver, .int .i64 r.id, .slice r.sa r.sn r.sc, .int .i64 r.got, .slice r.la r.ln r.lc] 70)).alloc (.cells #[.int .i64 r.kind, .int .i64 r.node, .int .i64 r.at_, .int .i64 r.x, .string r.q, .int .i64 r.qk, .int .i64 r.qn] 67)) w.heap.size c from (Blk.alloc (Blk.alloc HK.out (.cells #[.int .i64 r.kind, .int .i64 r.node, .int .i64 r.at_, .int .i64 r.x, .string r.q, .int .i64 r.qk, .int .i64 r.qn, .int .i64 r.ver, .int .i64 r.id, .slice r.sa r.sn r.sc, .int .i64 r.got, .slice r.la r.ln r.lc] 70)) (.cells #[.int .i64 r.kind, .int .i64 r.node, .int .i64 r.at_, .int .i64 r.x, .string r.q, .int .i64 r.qk, .int .i64 r.qn] 67)))
      have HP2 := Lib.hid ((HP.out.alloc (.cells #[.int .i64 r.kind, .int .i64 r.node, .int .i64 r.at_, .int .i64 r.x, .string r.q, .int .i64 r.qk, .int .i64 r.qn, .int .i64 r.ver, .int .i64 r.id, .slice r.sa r.sn r.sc, .int .i64 r.got, .slice r.la r.ln r.lc] 70)).alloc (.cells #[.int .i64 r.kind, .int .i64 r.node, .int .i64 r.at_, .int .i64 r.x, .string r.q, .int .i64 r.qk, .int .i64 r.qn] 67))
      have HB2 := Lib.hid ((HB.out.alloc hz (.cells #[.int .i64 r.kind, .int .i64 r.node, .int .i64 r.at_, .int .i64 r.x, .string r.q, .int .i64 r.qk, .int .i64 r.qn, .int .i64 r.ver, .int .i64 r.id, .slice r.sa r.sn r.sc, .int .i64 r.got, .slice r.la r.ln r.lc] 70)).alloc (Nat.le_trans hz (by simp)) (.cells #[.int .i64 r.kind, .int .i64 r.node, .int .i64 r.at_, .int .i64 r.x, .string r.q, .int .i64 r.qk, .int .i64 r.qn] 67))
      have HNE := Lib.hid (show wr.heap.size ≠ g ∧ wr.heap.size + 1 ≠ g from by have := HWO.out.lt; omega)
      generalize ((wr.alloc (.cells #[.int .i64 r.kind, .int .i64 r.node, .int .i64 r.at_, .int .i64 r.x, .string r.q, .int .i64 r.qk, .int .i64 r.qn, .int .i64 r.ver, .int .i64 r.id, .slice r.sa r.sn r.sc, .int .i64 r.got, .slice r.la r.ln r.lc] 70)).alloc (.cells #[.int .i64 r.kind, .int .i64 r.node, .int .i64 r.at_, .int .i64 r.x, .string r.q, .int .i64 r.qk, .int .i64 r.qn] 67)) = W2 at *
      generalize wr.heap.size + 1 = pe at *
      generalize wr.heap.size = pr at *
      have g0 : W2.cell? ⟨pe, 0, none⟩ = some (.int .i64 r.kind) := HE.out.cell 0
      have g1 : W2.cell? ⟨pe, 1, none⟩ = some (.int .i64 r.node) := HE.out.cell 1
      have g2 : W2.cell? ⟨w.heap.size, 2, none⟩ = some (.int .i64 (W : Int)) := by rw [← HWK.out]; exact HK2.out.cell 2
      have g3 : W2.cell? ⟨pr, 11, none⟩ = some (.slice r.la r.ln r.lc) := HQ.out.cell 11
      have HAT := Lib.hid (show (l.take (i + 1)) = l.take i ++ [r] from by rw [List.take_add_one, HX.out]; rfl)
      clear e0 e1 e2 e3 e4 e5 e6 e7 e8 e9 e10 e11 HQ0 HWO HK HP HB hz
      by_cases hk : r.kind = 4
      · have HNC := Lib.hid (show (decide (r.kind = 9) && has good r.node) = false from by rw [hk]; rfl)
        have HTK := Lib.hid (show [r].any isTick = false from by simp [isTick, hk])
        rw [hk] at g0
        have HK4 := Lib.hid hk
        clear hk
        by_cases hn0 : 0 ≤ r.node
        · by_cases hnw : r.node ≤ (W : Int)
          · obtain ⟨nd, hnd⟩ := Int.eq_ofNat_of_zero_le hn0
            have HWKL := Lib.hid (wokeL_set W (l.take i) r nd HK4.out hnd)
            rw [hnd] at g1 hnw
            have d1 : decide ((nd : Int) ≤ (W : Int)) = true := by simpa using hnw
            have d0 : decide ((0 : Int) ≤ (nd : Int)) = true := by simp
            have hnw' : nd < W + 1 := by omega
            have cw : ∃ v, W2.cell? ⟨g, nd, none⟩ = some v := ⟨_, by rw [HWO2.out.cell]; exact List.getElem?_eq_getElem (by simp [bools, wokeL_len]; omega)⟩
            obtain ⟨v0, cw⟩ := cw
            have fz := HWO2.out.frozen nd
            have HND := Lib.hid hnd
            have HS1 := Lib.hid (show Blk (W2.setCell ⟨g, nd, none⟩ (.bool true)) g 4 (bools ((wokeL W (l.take i)).set nd true)) from by have := HWO2.out.set nd (.bool true); unfold bools at this ⊢; rw [List.map_set]; exact this)
            have HS2 := Lib.hid (show CfgB (W2.setCell ⟨g, nd, none⟩ (.bool true)) w.heap.size c from HK2.out.far ⟨g, nd, none⟩ (.bool true) (fun e => HGN.out.1 e.symm))
            have HS3 := Lib.hid (HP2.out.far ⟨g, nd, none⟩ (.bool true) (fun e => HGN.out.2 e.symm))
            have HS4 := Lib.hid (show Below w.heap.size w (W2.setCell ⟨g, nd, none⟩ (.bool true)) from HB2.out.setCell HGE.out _)
            have HS5 := Lib.hid (HQ.out.far ⟨g, nd, none⟩ (.bool true) HNE.out.1)
            clear hnd hn0 hnw
            go_upto_region 13 with fail
            generalize W2.setCell ⟨g, nd, none⟩ (.bool true) = W3 at *
            clear HWO2 HK2 HP2 HB2 g3 g0 g1 g2 cw fz
            have HWO2 := HS1
            have HK2 := HS2
            have HP2 := HS3
            have HB2 := HS4
            have g3 : W3.cell? ⟨pr, 11, none⟩ = some (.slice r.la r.ln r.lc) := HS5.out.cell 11
            clear HS1 HS2 HS3 HS4 HS5
            go_wp2_with fail
            refine (cfw_any r.la r.ln r.lc r.lost p1 bm q f W3 (HIN.out.lost.below HB2.out rfl) (HP2.out.cell 0) (HM.out.below HB2.out) HIN.out.los).mono ?_
            rintro e w' ⟨rfl, rfl⟩
            cases hf : r.lost.any f
            · have hok := Lib.hid (show okR good f r = true from by unfold okR; rw [hf, HNC.out]; rfl)
              clear hf
              go_wp2_with fail
              go_roundw
              case rel => exact ⟨i + 1, by omega, by go_num, by rw [HAT.out, List.any_append, HTK.out]; simp, by unfold RowKit.Hid; rw [HAT.out, List.all_append, HA.out, List.all_cons, hok.out]; rfl, by unfold RowKit.Hid; rw [HAT.out, HWKL.out]; exact HWO2.out, HK2.out, HP2.out, HB2.out⟩
              case measure => simp [intOf]; omega
            · have hok := Lib.hid (show windowB W l good f = false from window_no HX.out (by unfold okR; rw [hf]; simp))
              clear hf
              obtain rfl : R = false := by rw [← HRR.out]; exact hok.out
              go_wp2_with fail
              go_ret
              exact ⟨rfl, HB2.out⟩
          · have HWKL := Lib.hid (show wokeL W (l.take i ++ [r]) = wokeL W (l.take i) from wokeL_same W _ r (by omega))
            have d1 : decide (r.node ≤ (W : Int)) = false := by simpa using hnw
            have d0 : decide (0 ≤ r.node) = true := by simpa using hn0
            clear hnw hn0
            go_wp2_with fail
            refine (cfw_any r.la r.ln r.lc r.lost p1 bm q f W2 (HIN.out.lost.below HB2.out rfl) (HP2.out.cell 0) (HM.out.below HB2.out) HIN.out.los).mono ?_
            rintro e w' ⟨rfl, rfl⟩
            cases hf : r.lost.any f
            · have hok := Lib.hid (show okR good f r = true from by unfold okR; rw [hf, HNC.out]; rfl)
              clear hf
              go_wp2_with fail
              go_roundw
              case rel => exact ⟨i + 1, by omega, by go_num, by rw [HAT.out, List.any_append, HTK.out]; simp, by unfold RowKit.Hid; rw [HAT.out, List.all_append, HA.out, List.all_cons, hok.out]; rfl, by unfold RowKit.Hid; rw [HAT.out, HWKL.out]; exact HWO2.out, HK2.out, HP2.out, HB2.out⟩
              case measure => simp [intOf]; omega
            · have hok := Lib.hid (show windowB W l good f = false from window_no HX.out (by unfold okR; rw [hf]; simp))
              clear hf
              obtain rfl : R = false := by rw [← HRR.out]; exact hok.out
              go_wp2_with fail
              go_ret
              exact ⟨rfl, HB2.out⟩
        · have HWKL := Lib.hid (show wokeL W (l.take i ++ [r]) = wokeL W (l.take i) from wokeL_same W _ r (by omega))
          have d0 : decide (0 ≤ r.node) = false := by simpa using hn0
          clear hn0
          go_wp2_with fail
          refine (cfw_any r.la r.ln r.lc r.lost p1 bm q f W2 (HIN.out.lost.below HB2.out rfl) (HP2.out.cell 0) (HM.out.below HB2.out) HIN.out.los).mono ?_
          rintro e w' ⟨rfl, rfl⟩
          cases hf : r.lost.any f
          · have hok := Lib.hid (show okR good f r = true from by unfold okR; rw [hf, HNC.out]; rfl)
            clear hf
            go_wp2_with fail
            go_roundw
            case rel => exact ⟨i + 1, by omega, by go_num, by rw [HAT.out, List.any_append, HTK.out]; simp, by unfold RowKit.Hid; rw [HAT.out, List.all_append, HA.out, List.all_cons, hok.out]; rfl, by unfold RowKit.Hid; rw [HAT.out, HWKL.out]; exact HWO2.out, HK2.out, HP2.out, HB2.out⟩
            case measure => simp [intOf]; omega
          · have hok := Lib.hid (show windowB W l good f = false from window_no HX.out (by unfold okR; rw [hf]; simp))
            clear hf
            obtain rfl : R = false := by rw [← HRR.out]; exact hok.out
            go_wp2_with fail
            go_ret
            exact ⟨rfl, HB2.out⟩
      have HWKL := Lib.hid (show wokeL W (l.take i ++ [r]) = wokeL W (l.take i) from wokeL_same W _ r (by omega))
      have k4 : (r.kind == 4) = false := by simpa using hk
      by_cases hk3 : r.kind = 3
      · have HNC := Lib.hid (show (decide (r.kind = 9) && has good r.node) = false from by rw [hk3]; rfl)
        have HTK := Lib.hid (show [r].any isTick = true from by simp [isTick, hk3])
        rw [hk3] at g0
        clear hk hk3 k4
        go_wp2_with fail
        refine (cfw_any r.la r.ln r.lc r.lost p1 bm q f W2 (HIN.out.lost.below HB2.out rfl) (HP2.out.cell 0) (HM.out.below HB2.out) HIN.out.los).mono ?_
        rintro e w' ⟨rfl, rfl⟩
        cases hf : r.lost.any f
        · have hok := Lib.hid (show okR good f r = true from by unfold okR; rw [hf, HNC.out]; rfl)
          clear hf
          go_wp2_with fail
          go_roundw
          case rel => exact ⟨i + 1, by omega, by go_num, by rw [HAT.out, List.any_append, HTK.out]; simp, by unfold RowKit.Hid; rw [HAT.out, List.all_append, HA.out, List.all_cons, hok.out]; rfl, by unfold RowKit.Hid; rw [HAT.out, HWKL.out]; exact HWO2.out, HK2.out, HP2.out, HB2.out⟩
          case measure => simp [intOf]; omega
        · have hok := Lib.hid (show windowB W l good f = false from window_no HX.out (by unfold okR; rw [hf]; simp))
          clear hf
          obtain rfl : R = false := by rw [← HRR.out]; exact hok.out
          go_wp2_with fail
          go_ret
          exact ⟨rfl, HB2.out⟩
      have HTK := Lib.hid (show [r].any isTick = false from by simp [isTick, hk3])
      have k3 : (r.kind == 3) = false := by simpa using hk3
      by_cases hk9 : r.kind = 9
      · have HCG := Lib.hid (contains_int ag ng cg good r.node W2 (HG.out.below HB2.out rfl))
        rw [hk9] at g0
        cases hh : has good r.node
        · have HNC := Lib.hid (show (decide (r.kind = 9) && has good r.node) = false from by rw [hk9, hh]; rfl)
          rw [hh] at HCG
          clear hh hk hk3 hk9 k4 k3
          go_wp2_with fail
          refine HCG.out.mono ?_
          rintro e w' ⟨rfl, rfl⟩
          go_wp2_with fail
          refine (cfw_any r.la r.ln r.lc r.lost p1 bm q f W2 (HIN.out.lost.below HB2.out rfl) (HP2.out.cell 0) (HM.out.below HB2.out) HIN.out.los).mono ?_
          rintro e w' ⟨rfl, rfl⟩
          cases hf : r.lost.any f
          · have hok := Lib.hid (show okR good f r = true from by unfold okR; rw [hf, HNC.out]; rfl)
            clear hf
            go_wp2_with fail
            go_roundw
            case rel => exact ⟨i + 1, by omega, by go_num, by rw [HAT.out, List.any_append, HTK.out]; simp, by unfold RowKit.Hid; rw [HAT.out, List.all_append, HA.out, List.all_cons, hok.out]; rfl, by unfold RowKit.Hid; rw [HAT.out, HWKL.out]; exact HWO2.out, HK2.out, HP2.out, HB2.out⟩
            case measure => simp [intOf]; omega
          · have hok := Lib.hid (show windowB W l good f = false from window_no HX.out (by unfold okR; rw [hf]; simp))
            clear hf
            obtain rfl : R = false := by rw [← HRR.out]; exact hok.out
            go_wp2_with fail
            go_ret
            exact ⟨rfl, HB2.out⟩
        · obtain rfl : R = false := by rw [← HRR.out]; exact window_no HX.out (by unfold okR; rw [hk9, hh]; rfl)
          rw [hh] at HCG
          clear hh hk hk3 hk9 k4 k3
          go_wp2_with fail
          refine HCG.out.mono ?_
          rintro e w' ⟨rfl, rfl⟩
          go_wp2_with fail
          go_ret
          exact ⟨rfl, HB2.out⟩
      have HNC := Lib.hid (show (decide (r.kind = 9) && has good r.node) = false from by rw [decide_eq_false hk9]; rfl)
      have k9 : (r.kind == 9) = false := by simpa using hk9
      clear hk hk3 hk9
      go_wp2_with fail
      refine (cfw_any r.la r.ln r.lc r.lost p1 bm q f W2 (HIN.out.lost.below HB2.out rfl) (HP2.out.cell 0) (HM.out.below HB2.out) HIN.out.los).mono ?_
      rintro e w' ⟨rfl, rfl⟩
      cases hf : r.lost.any f
      · have hok := Lib.hid (show okR good f r = true from by unfold okR; rw [hf, HNC.out]; rfl)
        clear hf
        go_wp2_with fail
        go_roundw
        case rel => exact ⟨i + 1, by omega, by go_num, by rw [HAT.out, List.any_append, HTK.out]; simp, by unfold RowKit.Hid; rw [HAT.out, List.all_append, HA.out, List.all_cons, hok.out]; rfl, by unfold RowKit.Hid; rw [HAT.out, HWKL.out]; exact HWO2.out, HK2.out, HP2.out, HB2.out⟩
        case measure => simp [intOf]; omega
      · have hok := Lib.hid (show windowB W l good f = false from window_no HX.out (by unfold okR; rw [hf]; simp))
        clear hf
        obtain rfl : R = false := by rw [← HRR.out]; exact hok.out
        go_wp2_with fail
        go_ret
        exact ⟨rfl, HB2.out⟩
    · obtain rfl : i = l.length := by omega
      have HWF := Lib.hid (contains_bool (some ⟨g, 0, none⟩) (W + 1) (W + 1) (wokeL W l) false wr (by
        have := HWO.out
        rw [List.take_length] at this
        exact this.rd (W + 1) (W + 1) (bools (wokeL W l)) (by simp [bools, wokeL_len]) (Nat.le_refl _) (by unfold maxLen; omega) (fun i hi => rfl)))
      have hw := HRR.out
      unfold windowB at hw
      have ha := HA.out
      rw [List.take_length] at ha ⊢
      rw [ha, Bool.true_and] at hw
      generalize l.any isTick = tk at *
      generalize has (wokeL W l) false = hh at *
      subst hw
      have HB9 := Lib.hid HB.out
      clear HWO HA ha HB HK HP
      cases tk
      · go_wp2_with fail
        go_ret
        exact ⟨rfl, HB9.out⟩
      · go_wp2_with fail
        refine HWF.out.mono ?_
        rintro e w' ⟨rfl, rfl⟩
        cases hh
        · go_wp2_with fail
          go_ret
          exact ⟨rfl, HB9.out⟩
        · go_wp2_with fail
          go_ret
          exact ⟨rfl, HB9.out⟩
end Go.Proofs.Ytjdanngkmkgidaa
