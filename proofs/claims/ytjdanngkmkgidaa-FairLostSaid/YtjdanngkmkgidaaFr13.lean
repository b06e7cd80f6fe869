/- FairLost. -/
import Derived.Test.YtjdanngkmkgidaaFr12
import Derived.Test.YtjdanngkmkgidaaFr8
import Derived.Deep.DeepCutAuto
namespace Go.Proofs.Ytjdanngkmkgidaa
open Go.RowKit
set_option linter.unusedVariables false

def TuR (w : World) (l : List RecM) (v13 v14 : Value) (wr : World) : Prop := ∃ (i : Nat) (ao : Option Addr) (cap : Nat), i ≤ l.length ∧ v14 = .int .i64 i ∧ v13 = .slice ao i cap ∧ RowKit.Hid (wr.ownsRow w.heap.size 70 12 (.slice ao i cap) i ((l.take i).flatMap RecM.cells)) ∧ RowKit.Hid (Below w.heap.size w wr)
def Fc0 (w : World) (c : CfgM) (l : List RecM) (sp : List Value) (g cp k : Nat) (g0 : Int) (s : Value) (wx : World) : Prop := s = .int .i64 (k : Int) ∧ ∃ wy : World, wy = wx ∧ ∃ (r : RecM) (a2 : Option Addr) (n2 c2 : Nat), l[k]? = some r ∧ FLs w wy c (l.set k (r.more a2 n2 c2 (77777, 0, g0))) sp g cp
def StR (w : World) (c : CfgM) (l : List RecM) (sp : List Value) (g cp b : Nat) (v16 : Value) (wr : World) : Prop := ∃ i : Nat, i ≤ b ∧ v16 = .int .i64 i ∧ RowKit.Hid (FLs w wr c (stillL l i) sp g cp)
set_option maxRecDepth 100000 in
set_option maxHeartbeats 16000000 in
theorem lost_law (c : CfgM) (a : Option Addr) (n cap : Nat) (l : List RecM) (x2 : Int) (ag : Option Addr) (ng cg : Nat) (good : List Int) (x4 x5 : Int) (w : World) (hc : CfgOK w c) (hr : Recs w a n cap l) (hg : Rd w ag ng cg (ints good)) :
    Calls Try.prog 9 #[c.val, .slice a n cap, .int .i64 x2, .slice ag ng cg, .int .i64 x4, .int .i64 x5] w fun e w' => e = .returned (.bool true) ∧ Below w.heap.size w w' := by
  obtain ⟨i0, hi, hz0, hz1, hz2⟩ := info_parts info_rec
  have HI := Lib.hid hi
  have HZ0 := Lib.hid hz0
  have HZ1 := Lib.hid hz1
  have HZ2 := Lib.hid hz2
  clear hi hz0 hz1 hz2
  have hn := hr.rd.1
  have hgn := hg.1
  rw [ints_len] at hgn
  have hg2 := hg.2.1
  have hg3 := hg.2.2.1
  unfold maxLen at hg3
  have hcm := hr.rd.2.2.1
  have hcap := hr.rd.2.1
  unfold maxLen at hcm
  have HC := Lib.hid hc
  have HR := Lib.hid hr
  have HG := Lib.hid hg
  have HGR := Lib.hid (fun w h1 h2 h3 => great_any c a n cap l ag ng cg good w h1 h2 h3)
  have HWIN := Lib.hid (fun (a : Option Addr) (n cap : Nat) (l : List RecM) (fr b : Int) w h1 h2 h3 h4 h5 h6 h7 => Window_any c a n cap l fr b ag ng cg good w h1 h2 h3 h4 h5 h6 h7)
  have HGN := Lib.hid hgn
  subst hn
  clear hc hr hg hgn
  unfold CfgM.val at HGR HWIN ⊢
  go_enter Try.func9, Try.ntmps9
  go_upto_region 1 with fail
  have HK := Lib.hid (show CfgB (w.alloc (.cells #[.slice c.aw c.nw c.cw, .slice c.ac c.nc c.cc, .int .i64 c.wk, .int .i64 c.cp, .int .i64 c.sl, .int .i64 c.ba, .int .i64 c.le, .int .i64 c.he, .int .i64 c.fi, .int .i64 c.ca, .int .i64 c.ji, .int .i64 c.ne] 56)) w.heap.size c from heap_alloc_new w _)
  have HB := Lib.hid ((Below.refl _ w).alloc (Nat.le_refl _) (.cells #[.slice c.aw c.nw c.cw, .slice c.ac c.nc c.cc, .int .i64 c.wk, .int .i64 c.cp, .int .i64 c.sl, .int .i64 c.ba, .int .i64 c.le, .int .i64 c.he, .int .i64 c.fi, .int .i64 c.ca, .int .i64 c.ji, .int .i64 c.ne] 56))
  generalize (w.alloc (.cells #[.slice c.aw c.nw c.cw, .slice c.ac c.nc c.cc, .int .i64 c.wk, .int .i64 c.cp, .int .i64 c.sl, .int .i64 c.ba, .int .i64 c.le, .int .i64 c.he, .int .i64 c.fi, .int .i64 c.ca, .int .i64 c.ji, .int .i64 c.ne] 56)) = W at *
  have c0 : W.cell? ⟨w.heap.size, 0, none⟩ = some (.slice c.aw c.nw c.cw) := HK.out.cell 0
  have c1 : W.cell? ⟨w.heap.size, 1, none⟩ = some (.slice c.ac c.nc c.cc) := HK.out.cell 1
  have c2 : W.cell? ⟨w.heap.size, 2, none⟩ = some (.int .i64 c.wk) := HK.out.cell 2
  have c3 : W.cell? ⟨w.heap.size, 3, none⟩ = some (.int .i64 c.cp) := HK.out.cell 3
  have c4 : W.cell? ⟨w.heap.size, 4, none⟩ = some (.int .i64 c.sl) := HK.out.cell 4
  have c5 : W.cell? ⟨w.heap.size, 5, none⟩ = some (.int .i64 c.ba) := HK.out.cell 5
  have c6 : W.cell? ⟨w.heap.size, 6, none⟩ = some (.int .i64 c.le) := HK.out.cell 6
  have c7 : W.cell? ⟨w.heap.size, 7, none⟩ = some (.int .i64 c.he) := HK.out.cell 7
  have c8 : W.cell? ⟨w.heap.size, 8, none⟩ = some (.int .i64 c.fi) := HK.out.cell 8
  have c9 : W.cell? ⟨w.heap.size, 9, none⟩ = some (.int .i64 c.ca) := HK.out.cell 9
  have c10 : W.cell? ⟨w.heap.size, 10, none⟩ = some (.int .i64 c.ji) := HK.out.cell 10
  have c11 : W.cell? ⟨w.heap.size, 11, none⟩ = some (.int .i64 c.ne) := HK.out.cell 11
  go_wp2_with fail
  refine (HGR.out W (HC.out.below HB.out rfl) (HR.out.below HB.out rfl) (HG.out.below HB.out rfl)).mono ?_
  rintro e W1 ⟨rfl, hb⟩
  have HB1 := Lib.hid (HB.out.trans (hb.mono HB.out.size))
  have HK1 := Lib.hid (show CfgB W1 w.heap.size c from Blk.below HK.out hb (Blk.lt HK.out))
  clear hb HB HK c0 c1 c2 c3 c4 c5 c6 c7 c8 c9 c10 c11
  cases hgc : greatB c l good.length
  case true =>
    clear hgc HWIN
    go_wp2_with fail
    refine (awake_any _).mono ?_
    rintro e W9 ⟨rfl, hb⟩
    have HB9 := Lib.hid (HB1.out.trans (hb.mono HB1.out.size))
    clear hb
    go_wp2_with fail
    go_ret
    exact ⟨rfl, HB9.out⟩
  obtain ⟨m1, m2, m3⟩ := greatB_false hgc
  clear hgc HGR
  have HM1 := Lib.hid (show l.length ≤ 1000 from by omega)
  have HM2 := Lib.hid (show ∀ r ∈ l, r.sent.length ≤ 20 ∧ r.lost.length ≤ 20 from fun r hr => m2 r hr)
  have HM3 := Lib.hid (show good.length ≤ 1000 from by omega)
  clear m2 m3
  by_cases hl0 : l.length = 0
  · have d0 : decide (l.length = 0) = true := by simpa using hl0
    have d1 : ((l.length : Int) == 0) = true := by simp [hl0]
    have HL0 := Lib.hid hl0
    clear hl0
    go_wp2_with fail
    refine (awake_any _).mono ?_
    rintro e W9 ⟨rfl, hb⟩
    have HB9 := Lib.hid (HB1.out.trans (hb.mono HB1.out.size))
    clear hb
    go_wp2_with fail
    go_ret
    exact ⟨rfl, HB9.out⟩
  have hl1 : 1 ≤ l.length := by omega
  have d1 : ((l.length : Int) == 0) = false := by simp; exact fun h => hl0 (by rw [h]; rfl)
  clear hl0
  have hl2 := lowI_bd x2 30 (by decide)
  have HLW2 := Lib.hid (low_any x2 30)
  generalize lowI x2 30 = y2 at *
  obtain ⟨z2, rfl⟩ := Int.eq_ofNat_of_zero_le hl2.1
  have w2 : IntKind.i64.wrap (1 + (z2 : Int)) = 1 + (z2 : Int) := wr_in _ (by omega) (by omega)
  obtain ⟨bn, hbn⟩ : ∃ x : Nat, (if (l.length : Int) < 1 + (z2 : Int) then (l.length : Int) else 1 + (z2 : Int)) = (x : Int) := ⟨min (1 + z2) l.length, by split <;> omega⟩
  have hbn1 : 1 ≤ bn := by split at hbn <;> omega
  have hbn2 : bn ≤ l.length := by split at hbn <;> omega
  clear hl2
  go_wp2_with fail
  refine (HLW2.out W1 (by decide) (by decide)).mono ?_
  rintro e W2 ⟨rfl, rfl⟩
  have c0 : W1.cell? ⟨w.heap.size, 0, none⟩ = some (.slice c.aw c.nw c.cw) := HK1.out.cell 0
  have c1 : W1.cell? ⟨w.heap.size, 1, none⟩ = some (.slice c.ac c.nc c.cc) := HK1.out.cell 1
  have c2 : W1.cell? ⟨w.heap.size, 2, none⟩ = some (.int .i64 c.wk) := HK1.out.cell 2
  have c3 : W1.cell? ⟨w.heap.size, 3, none⟩ = some (.int .i64 c.cp) := HK1.out.cell 3
  have c4 : W1.cell? ⟨w.heap.size, 4, none⟩ = some (.int .i64 c.sl) := HK1.out.cell 4
  have c5 : W1.cell? ⟨w.heap.size, 5, none⟩ = some (.int .i64 c.ba) := HK1.out.cell 5
  have c6 : W1.cell? ⟨w.heap.size, 6, none⟩ = some (.int .i64 c.le) := HK1.out.cell 6
  have c7 : W1.cell? ⟨w.heap.size, 7, none⟩ = some (.int .i64 c.he) := HK1.out.cell 7
  have c8 : W1.cell? ⟨w.heap.size, 8, none⟩ = some (.int .i64 c.fi) := HK1.out.cell 8
  have c9 : W1.cell? ⟨w.heap.size, 9, none⟩ = some (.int .i64 c.ca) := HK1.out.cell 9
  have c10 : W1.cell? ⟨w.heap.size, 10, none⟩ = some (.int .i64 c.ji) := HK1.out.cell 10
  have c11 : W1.cell? ⟨w.heap.size, 11, none⟩ = some (.int .i64 c.ne) := HK1.out.cell 11
  go_wp2_with fail
  refine (HWIN.out _ _ _ _ _ _ W1 (HC.out.below HB1.out rfl) (HR.out.below HB1.out rfl) (HG.out.below HB1.out rfl) HM1.out (fun r hr => Nat.le_trans (HM2.out r hr).1 (by decide)) HM3.out (by decide)).mono ?_
  rintro e W2 ⟨rfl, hb⟩
  have HB2 := Lib.hid (HB1.out.trans (hb.mono HB1.out.size))
  have HK2 := Lib.hid (show CfgB W2 w.heap.size c from Blk.below HK1.out hb (Blk.lt HK1.out))
  clear hb HB1 HK1 c0 c1 c2 c3 c4 c5 c6 c7 c8 c9 c10 c11 w2 hbn HLW2
  cases hwv : WindowB c l 0 (bn : Int) good
  case false =>
    clear hwv HWIN
    go_wp2_with fail
    refine (awake_any _).mono ?_
    rintro e W9 ⟨rfl, hb⟩
    have HB9 := Lib.hid (HB2.out.trans (hb.mono HB2.out.size))
    clear hb
    go_wp2_with fail
    go_ret
    exact ⟨rfl, HB9.out⟩
  have HWV := Lib.hid hwv
  have hg1 : good ≠ [] := by
    intro e
    subst e
    unfold WindowB at hwv
    rw [Bool.and_eq_true, Bool.and_eq_true] at hwv
    exact absurd hwv.1.2 (by rw [good_nil]; decide)
  have hg1' : 1 ≤ ng := by
    rw [← HGN.out]
    cases good with
    | nil => exact absurd rfl hg1
    | cons x r => simp
  clear hwv hg1
  have d2 : ((ng : Int) == 0) = false := by simp; omega
  have HBB := Lib.hid (Below.refl W2.heap.size W2)
  go_wp2_with fail
  go_loopw [13, 14] (fun v13 v14 wr => TuR W2 l v13 v14 wr) (fun _ v _ => l.length - (intOf v).toNat)
  case atStart => exact ⟨0, none, 0, Nat.zero_le _, rfl, rfl, World.ownsRow_nil _ _ _ _, HBB.out⟩
  case round =>
    clear HBB
    obtain ⟨i, ao, cp, hi, rfl, rfl, HO, HBW⟩ := hrel
    by_cases hlt : i < l.length
    · obtain ⟨r, hx⟩ : ∃ r, l[i]? = some r := ⟨_, List.getElem?_eq_getElem hlt⟩
      have hmem : r ∈ l := List.mem_iff_getElem?.2 ⟨i, hx⟩
      obtain ⟨b, off, rfl, hbl, hc⟩ := (HR.out.below (HB2.out.trans (HBW.out.mono HB2.out.size)) rfl).rd.at_ hx
      have e0 : wr.cell? ⟨b, off + i * 12, none⟩ = some (.int .i64 r.kind) := hc 0 (by decide)
      have e1 : wr.cell? ⟨b, off + i * 12 + 1, none⟩ = some (.int .i64 r.node) := hc 1 (by decide)
      have e2 : wr.cell? ⟨b, off + i * 12 + 2, none⟩ = some (.int .i64 r.at_) := hc 2 (by decide)
      have e3 : wr.cell? ⟨b, off + i * 12 + 3, none⟩ = some (.int .i64 r.x) := hc 3 (by decide)
      have e4 : wr.cell? ⟨b, off + i * 12 + 4, none⟩ = some (.string r.q) := hc 4 (by decide)
      have e5 : wr.cell? ⟨b, off + i * 12 + 5, none⟩ = some (.int .i64 r.qk) := hc 5 (by decide)
      have e6 : wr.cell? ⟨b, off + i * 12 + 6, none⟩ = some (.int .i64 r.qn) := hc 6 (by decide)
      have e7 : wr.cell? ⟨b, off + i * 12 + 7, none⟩ = some (.int .i64 r.ver) := hc 7 (by decide)
      have e8 : wr.cell? ⟨b, off + i * 12 + 8, none⟩ = some (.int .i64 r.id) := hc 8 (by decide)
      have e9 : wr.cell? ⟨b, off + i * 12 + 9, none⟩ = some (.slice r.sa r.sn r.sc) := hc 9 (by decide)
      have e10 : wr.cell? ⟨b, off + i * 12 + 10, none⟩ = some (.int .i64 r.got) := hc 10 (by decide)
      have e11 : wr.cell? ⟨b, off + i * 12 + 11, none⟩ = some (.slice r.la r.ln r.lc) := hc 11 (by decide)
      have HTK := Lib.hid (rec_take hx)
      clear hx hmem hc hbl
      have A1 : i + 1 ≤ maxLen := by unfold maxLen; omega
      have A2 : (i + 1) * 136 ≤ 140737488355328 := by omega
      have HAL := Lib.hid ((Below.refl _ wr).alloc (Nat.le_refl _) (.cells r.cells.toArray 70))
      have HO' := Lib.hid (ownsRow_below HO.out HAL.out)
      have hz : W2.heap.size ≤ (wr.alloc (.cells r.cells.toArray 70)).heap.size := Nat.le_trans HBW.out.size HAL.out.size
      have HBA := Lib.hid (HBW.out.alloc HBW.out.size (.cells r.cells.toArray 70))
      have HSR := Lib.hid (Src.rec1 wr r (recOne r))
      go_wp2_with (at_builtin; refine wpList_app rfl _ _ 61 61 rfl W2.heap.size 70 i0 (Value.agg #[.int .i64 0, .int .i64 0, .int .i64 0, .int .i64 0, .string ⟨#[]⟩, .int .i64 0, .int .i64 0, .int .i64 0, .int .i64 0, .slice none 0 0, .int .i64 0, .slice none 0 0]) 12 136 Try.underlying61 HI.out HZ0.out HZ1.out HZ2.out rfl (by decide) ao i cp ((l.take i).flatMap RecM.cells) rfl HO'.out _ 1 r.cells rfl HSR.out A1 A2 hz ?_; intro ao3 c3 w5 hown5 hg5; rw [HTK.out] at hown5; have HO5 := Lib.hid hown5; have HB5 := Lib.hid (HBA.out.grown hg5 hz (fun b hb => (HO'.out.lt b hb).1)); clear hown5 hg5)
      go_roundw
      case rel => exact ⟨i + 1, ao3, c3, by omega, by go_num, rfl, HO5.out, HB5.out⟩
      case measure => simp [intOf]; omega
    · obtain rfl : i = l.length := by omega
      have ho := HO.out
      rw [List.take_length] at ho
      obtain ⟨g, rfl, hgb⟩ := ownsRow_some ho (by omega)
      obtain ⟨sp, hsp, hblk⟩ := ownsRow_blk ho
      have hrde := ownsRow_rdE RecM.cells_len rfl ho
      have hcp := hrde.2.1
      have hcp2 := hrde.2.2.1
      have HBK := Lib.hid hblk
      have HCP2 := Lib.hid hcp2
      unfold maxLen at hcp2
      have HFL := Lib.hid (show FLs w wr c l sp g cp from ⟨HBK.out, HB2.out.trans (HBW.out.mono HB2.out.size), Blk.below HK2.out HBW.out (Blk.lt HK2.out), Nat.lt_of_lt_of_le (Blk.lt HK2.out) hgb, hcp, HCP2.out, fun r hr => ⟨(HR.out.all r hr).below (HB2.out.trans (HBW.out.mono HB2.out.size)) rfl, offR_in (HR.out.all r hr) (Nat.le_trans HB2.out.size hgb), Nat.le_trans (HM2.out r hr).1 (by decide), Nat.le_trans (HM2.out r hr).2 (by decide)⟩, m1⟩)
      clear ho HO hblk hsp hrde hi hlt HBK HK2
      have hl5 := lowI_bd x5 (bn : Int) (by omega)
      have hl4 := lowI_bd x4 3 (by decide)
      have HLW5 := Lib.hid (low_any x5 (bn : Int))
      have HLW4 := Lib.hid (low_any x4 3)
      generalize lowI x5 (bn : Int) = y5 at *
      generalize lowI x4 3 = y4 at *
      obtain ⟨k, rfl⟩ := Int.eq_ofNat_of_zero_le hl5.1
      obtain ⟨z4, rfl⟩ := Int.eq_ofNat_of_zero_le hl4.1
      have hk : k < bn := by omega
      have hz4 : z4 < 3 := by omega
      clear hl5 hl4
      go_wp2_with fail
      refine (HLW5.out wr (by omega) (by omega)).mono ?_
      rintro e w1 ⟨rfl, rfl⟩
      go_wp2_with fail
      refine (HLW4.out wr (by decide) (by decide)).mono ?_
      rintro e w1 ⟨rfl, rfl⟩
      clear HLW5 HLW4
      rcases (by omega : z4 = 0 ∨ z4 = 1 ∨ z4 = 2) with rfl | rfl | rfl
      · have hx : ∃ r, l[k]? = some r := ⟨_, List.getElem?_eq_getElem (by omega)⟩
        obtain ⟨r, hx⟩ := hx
        have HX := Lib.hid hx
        have HXM := Lib.hid (List.mem_iff_getElem?.2 ⟨k, hx⟩)
        obtain ⟨b, off, rfl, hbl, hc⟩ := (HR.out.below HFL.out.bel rfl).rd.at_ hx
        have e9 : wr.cell? ⟨b, off + k * 12 + 9, none⟩ = some (.slice r.sa r.sn r.sc) := hc 9 (by decide)
        obtain ⟨g0, hg0⟩ : ∃ x, good[0]? = some x := ⟨_, List.getElem?_eq_getElem (by rw [HGN.out]; omega)⟩
        obtain ⟨bg, og, rfl, hbg, hcq⟩ := (HG.out.below HFL.out.bel rfl).2.2.2.2 0 (by omega)
        have cg0 : wr.cell? ⟨bg, og, none⟩ = some (.int .i64 g0) := by have := hcq; rw [Nat.add_zero] at this; rw [this]; simp [ints, hg0]
        have HGM := Lib.hid (List.mem_iff_getElem?.2 ⟨0, hg0⟩)
        have hrs := (HR.out.all r HXM.out).sent
        have hsn := hrs.1
        have hsl := (HM2.out r HXM.out).1
        have hsc := hrs.2.1
        have hsc2 := hrs.2.2.1
        unfold maxLen at hsc2
        have HRS := Lib.hid (hrs.below HFL.out.bel rfl)
        obtain ⟨i1, hi1, hy0, hy1, hy2⟩ := info_parts info_sent
        have HY := Lib.hid hi1
        have HY0 := Lib.hid hy0
        have HY1 := Lib.hid hy1
        have HY2 := Lib.hid hy2
        obtain ⟨sn, hsn2⟩ : ∃ x, r.sn = x := ⟨_, rfl⟩
        rw [hsn2] at e9 hsn hsc HRS
        obtain ⟨sc, hsc3⟩ : ∃ x, r.sc = x := ⟨_, rfl⟩
        rw [hsc3] at e9 hsc hsc2 HRS
        obtain ⟨sa, hsa3⟩ : ∃ x, r.sa = x := ⟨_, rfl⟩
        rw [hsa3] at e9 HRS
        rw [hsn] at hsl
        have HSN := Lib.hid hsn
        have hz0 := HFL.out.blk.lt
        have tg := HFL.out.cell hx 9 (by decide)
        have tg' : wr.cell? ⟨g, k * 12 + 9, none⟩ = some (.slice r.sa r.sn r.sc) := tg
        rw [hsn2, hsc3, hsa3] at tg'
        have fg : wr.frozen? ⟨g, k * 12 + 9, none⟩ = false := HFL.out.blk.frozen _
        have A1 : 0 + sn ≤ maxLen := by unfold maxLen; omega
        have A2 : (0 + sn) * 24 ≤ 140737488355328 := by omega
        have A3 : sn + 1 ≤ maxLen := by unfold maxLen; omega
        have A4 : (sn + 1) * 24 ≤ 140737488355328 := by omega
        have HSS := Lib.hid (fun W' (hb : Below wr.heap.size wr W') => Src.ofRdE (P := Try.prog) (tx := 68) (enc := SentL.cells) (size := 3) Try.underlying68 SentL.cells_len sentOne (HRS.out.below hb rfl))
        clear hx hc hcq hg0 hi1 hy0 hy1 hy2 hrs hsn hsn2 hsc3 hsa3 tg
        obtain ⟨m, hm⟩ : ∃ m, bn - 1 = m := ⟨_, rfl⟩
        have wm : IntKind.i64.wrap ((bn : Int) - 1) = (m : Int) := by rw [wr_in _ (by omega) (by omega)]; omega
        have hm1 : m < l.length := by omega
        have hm2 : m < bn := by omega
        have hm3 : (0 : Int) ≤ (m : Int) := by omega
        have hm4 : (m : Int) < (l.length : Int) := by omega
        obtain ⟨i2, hi2, hv0, hv1, hv2⟩ := info_parts info_int
        have HJ := Lib.hid hi2
        have HJ0 := Lib.hid hv0
        have HJ1 := Lib.hid hv1
        have HJ2 := Lib.hid hv2
        clear hi2 hv0 hv1 hv2 hm
        have HB0 := Lib.hid ((Below.refl wr.heap.size wr).drew)
        have HB0A := Lib.hid ((Below.refl wr.heap.size wr).drew.alloc (Nat.le_refl _) (.cells #[.int .i64 77777, .int .i64 0, .int .i64 g0] 72))
        have HZ0A := HB0A.out.size
        have e9a := (HB0A.out.cell (p := ⟨b, off + k * 12 + 9, none⟩) hbl).trans e9
        have kb1 : k < l.length := by omega
        have kb2 : (0 : Int) ≤ (k : Int) := by omega
        have kb3 : (k : Int) < (l.length : Int) := by omega
        have kb4 : 0 < ng := by omega
        have kb5 : (0 : Int) < (ng : Int) := by omega
        go_upto_region 19 with fail
        go_cut [15] (fun s15 wx => Fc0 w c l sp g cp k g0 s15 wx)
        case first =>
         go_region_law (first | (refine step_app rfl (.const (.slice none 0 0)) (.tmp 88) 68 68 rfl wr.heap.size 72 i1 (.agg #[.int .i64 0, .int .i64 0, .int .i64 0]) 3 24 Try.underlying68 HY.out HY0.out HY1.out HY2.out rfl (by decide) none 0 0 [] rfl (World.ownsRow_nil _ _ _ _) (.slice sa sn sc) sn (r.sent.flatMap SentL.cells) (by kernel_rfl) (HSS.out _ HB0.out) A1 A2 (Nat.le_refl _) ?_; intro a1 c1 u1 hown1 hgr1; rw [Nat.zero_add, List.nil_append] at hown1; have B1 := Lib.hid (HB0.out.grown hgr1 (Nat.le_refl _) (fun k hk => by cases hk)); have cg1 := (B1.out.cell (p := ⟨bg, og, none⟩) hbg).trans cg0; have HO1 := Lib.hid (ownsRow_below hown1 ((Below.refl _ u1).alloc (Nat.le_refl _) (.cells #[.int .i64 77777, .int .i64 0, .int .i64 g0] 72))); have HBV := Lib.hid (B1.out.alloc B1.out.size (.cells #[.int .i64 77777, .int .i64 0, .int .i64 g0] 72)); have HZV := HBV.out.size; have HS1 := Lib.hid (Src.sent1 u1 _ (77777, 0, g0) (Below.refl _ _)); clear hown1 hgr1) | (refine step_app rfl (.const (.slice none 0 0)) (.tmp 88) 68 68 rfl wr.heap.size 72 i1 (.agg #[.int .i64 0, .int .i64 0, .int .i64 0]) 3 24 Try.underlying68 HY.out HY0.out HY1.out HY2.out rfl (by decide) none 0 0 [] rfl (World.ownsRow_nil _ _ _ _) (.slice sa sn sc) sn (r.sent.flatMap SentL.cells) (by kernel_rfl) (HSS.out _ HB0A.out) A1 A2 HZ0A ?_; intro a1 c1 u1 hown1 hgr1; rw [Nat.zero_add, List.nil_append] at hown1; have B1 := Lib.hid (HB0A.out.grown hgr1 HZ0A (fun k hk => by cases hk)); have cg1 := (B1.out.cell (p := ⟨bg, og, none⟩) hbg).trans cg0; have HO1 := Lib.hid hown1; have HBV := B1; have HZV := HBV.out.size; have HS1 := Lib.hid (Src.sent1 wr.drew u1 (77777, 0, g0) ((Below.refl (wr.heap.size + 1) _).grown hgr1 (by simp) (fun k hk => by cases hk))); clear hown1 hgr1) | (refine step_app rfl (.tmp 89) (.tmp 94) 68 68 rfl wr.heap.size 72 i1 (.agg #[.int .i64 0, .int .i64 0, .int .i64 0]) 3 24 Try.underlying68 HY.out HY0.out HY1.out HY2.out rfl (by decide) a1 sn c1 (r.sent.flatMap SentL.cells) (by kernel_rfl) HO1.out _ 1 (SentL.cells (77777, 0, g0)) (by kernel_rfl) HS1.out A3 A4 HZV ?_; intro a2 c2 u2 hown2 hgr2; have HBU := Lib.hid (HBV.out.grown hgr2 HZV (fun k hk => (HO1.out.lt k hk).1)); have HO2 := Lib.hid hown2; have tg2 := (HBU.out.cell (p := ⟨g, k * 12 + 9, none⟩) hz0).trans tg'; have fg2 := (HBU.out.frozen (p := ⟨g, k * 12 + 9, none⟩) hz0).trans fg; clear hown2 hgr2))
         all_goals
          have HF5 := Lib.hid (HFL.out.sent HBU.out HX.out wf64_777 HSN.out hsl HO2.out)
          have HF5' := Lib.hid (show Fc0 w c l sp g cp k g0 (.int .i64 k) (u2.setCell ⟨g, k * 12 + 9, none⟩ (.slice a2 (sn + 1) c2)) from ⟨rfl, _, rfl, r, a2, sn + 1, c2, HX.out, HF5.out⟩)
          clear HO2 HBU HS1 HO1 HBV HZV B1 tg2 fg2 cg1 HFL HB0 HB0A HZ0A e9a HSS HRS HF5
          generalize u2.setCell ⟨g, k * 12 + 9, none⟩ (.slice a2 (sn + 1) c2) = W3 at *
          go_wp2_with fail
          go_meet
          exact HF5'.out
        case rest =>
          clear HFL HB0 HB0A HZ0A e9a HSS HRS e9 cg0 tg' fg HX HXM HSN
          obtain ⟨rfl, wx, rfl, r, a2, n2, c2, hx, hf5⟩ := hcut
          have HX := Lib.hid hx
          have HXM := Lib.hid (List.mem_iff_getElem?.2 ⟨k, hx⟩)
          have HF5 := Lib.hid hf5
          clear hx hf5
          have HMM := Lib.hid (show m < (l.set k (r.more a2 n2 c2 (77777, 0, g0))).length from by rw [List.length_set]; exact hm1)
          obtain ⟨r2, hx2⟩ : ∃ r2, (l.set k (r.more a2 n2 c2 (77777, 0, g0)))[m]? = some r2 := ⟨_, List.getElem?_eq_getElem HMM.out⟩
          have HX2 := Lib.hid hx2
          have HL2 := Lib.hid (HF5.out.all r2 (List.mem_iff_getElem?.2 ⟨m, hx2⟩)).2.2.2
          have HT0 := Lib.hid (show (l.set k (r.more a2 n2 c2 (77777, 0, g0))).length = l.length from by rw [List.length_set])
          have HRL := Lib.hid (HF5.out.all r2 (List.mem_iff_getElem?.2 ⟨m, hx2⟩)).1.lost
          have tl : wx.cell? ⟨g, m * 12 + 11, none⟩ = some (.slice r2.la r2.ln r2.lc) := HF5.out.cell hx2 11 (by decide)
          obtain ⟨ln, hln⟩ : ∃ x, r2.ln = x := ⟨_, rfl⟩
          rw [hln] at tl HRL
          have HLN := Lib.hid (show r2.lost.length = ln from by have := HRL.out.1; rwa [ints_len] at this)
          have hll : ln ≤ 20 := by
            have h1 := HLN.out
            have h2 : r2.lost.length ≤ 20 := by
              by_cases e : m = k
              · have hx3 := hx2
                rw [← e, List.getElem?_set_self hm1] at hx3
                obtain rfl := Option.some.inj hx3
                exact (HM2.out r HXM.out).2
              · have hx3 := hx2
                rw [List.getElem?_set_ne (fun h => e h.symm)] at hx3
                exact (HM2.out r2 (List.mem_iff_getElem?.2 ⟨m, hx3⟩)).2
            omega
          have gl := HF5.out.blk.lt
          have A5 : 0 + ln ≤ maxLen := by unfold maxLen; omega
          have A6 : (0 + ln) * 8 ≤ 140737488355328 := by omega
          have A7 : ln + 1 ≤ maxLen := by unfold maxLen; omega
          have A8 : (ln + 1) * 8 ≤ 140737488355328 := by omega
          have HSL := Lib.hid (Src.ofRd (P := Try.prog) (tx := 22) Try.underlying22 HRL.out (by intro u hu; simp only [ints, List.mem_map] at hu; obtain ⟨x, _, rfl⟩ := hu; rfl))
          clear hx2 hln
          have fl0 := HF5.out.blk.frozen (m * 12 + 11)
          go_upto_region 23 with (first | (refine wpList_app (by rfl) (.const (.slice none 0 0)) (.tmp 106) 22 22 (by rfl) wx.heap.size 3 i2 (.int .i64 0) 1 8 Try.underlying22 HJ.out HJ0.out HJ1.out HJ2.out rfl (by decide) none 0 0 [] (by rfl) (World.ownsRow_nil _ _ _ _) (.slice r2.la ln r2.lc) ln (ints r2.lost) (by rfl) HSL.out A5 A6 (Nat.le_refl _) ?_; intro a5 c5 u5 hown5 hgr5; rw [Nat.zero_add, List.nil_append] at hown5; have B5 := Lib.hid ((Below.refl wx.heap.size wx).grown hgr5 (Nat.le_refl _) (fun k hk => by cases hk)); have HO5 := Lib.hid (ownsRow_below hown5 ((Below.refl _ u5).alloc (Nat.le_refl _) (.cells #[.int .i64 77777] 3))); have B6 := Lib.hid (B5.out.alloc B5.out.size (.cells #[.int .i64 77777] 3)); have hz6 := B6.out.size; clear hown5 hgr5; rw [Nat.zero_add]) | (refine wpList_app (by rfl) (.tmp 107) (.tmp 108) 22 22 (by rfl) wx.heap.size 3 i2 (.int .i64 0) 1 8 Try.underlying22 HJ.out HJ0.out HJ1.out HJ2.out rfl (by decide) a5 ln c5 (ints r2.lost) (by rfl) HO5.out _ 1 [.int .i64 77777] (by rfl) (Src.one' Try.underlying22 u5 _ 3 rfl) A7 A8 hz6 ?_; intro a6 c6 u6 hown6 hgr6; have B7 := Lib.hid (B6.out.grown hgr6 hz6 (fun k hk => (HO5.out.lt k hk).1)); have HO6 := Lib.hid hown6; have tl6 := (B7.out.cell (p := ⟨g, m * 12 + 11, none⟩) gl).trans tl; have fl6 := (B7.out.frozen (p := ⟨g, m * 12 + 11, none⟩) gl).trans fl0; clear hown6 hgr6 tl fl0))
          have HF6 := Lib.hid (HF5.out.lost B7.out HX2.out wf64_777 HLN.out hll HO6.out)
          have HWF := Lib.hid (window_0 (c := c) (a2 := a6) (n2 := ln + 1) (ca2 := c6) HX.out HGM.out hm2 HX2.out)
          have HTL := Lib.hid (show ((l.set k (r.more a2 n2 c2 (77777, 0, g0))).set m (r2.less a6 (ln + 1) c6 77777)).length = l.length from by rw [List.length_set, List.length_set])
          clear HO6 B7 B6 B5 HO5 tl6 fl6 HF5 HX2 HL2 HT0 HRL HLN HSL HMM
          generalize u6.setCell ⟨g, m * 12 + 11, none⟩ (.slice a6 (ln + 1) c6) = W4 at *
          have HF3 := Lib.hid HF6.out
          clear HF6
          generalize (l.set k (r.more a2 n2 c2 (77777, 0, g0))).set m (r2.less a6 (ln + 1) c6 77777) = T at *
          have c0 : W4.cell? ⟨w.heap.size, 0, none⟩ = some (.slice c.aw c.nw c.cw) := HF3.out.cfg.cell 0; have c1 : W4.cell? ⟨w.heap.size, 1, none⟩ = some (.slice c.ac c.nc c.cc) := HF3.out.cfg.cell 1; have c2 : W4.cell? ⟨w.heap.size, 2, none⟩ = some (.int .i64 c.wk) := HF3.out.cfg.cell 2; have c3 : W4.cell? ⟨w.heap.size, 3, none⟩ = some (.int .i64 c.cp) := HF3.out.cfg.cell 3; have c4 : W4.cell? ⟨w.heap.size, 4, none⟩ = some (.int .i64 c.sl) := HF3.out.cfg.cell 4; have c5 : W4.cell? ⟨w.heap.size, 5, none⟩ = some (.int .i64 c.ba) := HF3.out.cfg.cell 5; have c6 : W4.cell? ⟨w.heap.size, 6, none⟩ = some (.int .i64 c.le) := HF3.out.cfg.cell 6; have c7 : W4.cell? ⟨w.heap.size, 7, none⟩ = some (.int .i64 c.he) := HF3.out.cfg.cell 7; have c8 : W4.cell? ⟨w.heap.size, 8, none⟩ = some (.int .i64 c.fi) := HF3.out.cfg.cell 8; have c9 : W4.cell? ⟨w.heap.size, 9, none⟩ = some (.int .i64 c.ca) := HF3.out.cfg.cell 9; have c10 : W4.cell? ⟨w.heap.size, 10, none⟩ = some (.int .i64 c.ji) := HF3.out.cfg.cell 10; have c11 : W4.cell? ⟨w.heap.size, 11, none⟩ = some (.int .i64 c.ne) := HF3.out.cfg.cell 11
          go_wp2_with fail
          have HB3 := Lib.hid HF3.out.bel
          have HK3 := Lib.hid HF3.out.cfg
          have HT := Lib.hid HF3.out.recs
          have HMT1 := Lib.hid (show T.length ≤ 1000 from Nat.le_trans HF3.out.lim (by decide))
          have HMT2 := Lib.hid (show ∀ r ∈ T, r.sent.length ≤ 1000 from fun r hr => Nat.le_trans (HF3.out.all r hr).2.2.1 (by decide))
          rw [HTL.out] at HT
          clear HF3
          refine (HWIN.out _ _ _ _ _ _ W4 (HC.out.below HB3.out rfl) HT.out (HG.out.below HB3.out rfl) HMT1.out HMT2.out HM3.out (by decide)).mono ?_
          rintro e W9 ⟨rfl, hb⟩
          rw [HWF.out]
          have HB4 := Lib.hid (HB3.out.trans (hb.mono HB3.out.size))
          have HK4 := Lib.hid (show CfgB W9 w.heap.size c from Blk.below HK3.out hb (Blk.lt HK3.out))
          clear hb HB3 HK3 c0 c1 c2 c3 c4 c5 c6 c7 c8 c9 c10 c11
          have c0 : W9.cell? ⟨w.heap.size, 0, none⟩ = some (.slice c.aw c.nw c.cw) := HK4.out.cell 0
          have c1 : W9.cell? ⟨w.heap.size, 1, none⟩ = some (.slice c.ac c.nc c.cc) := HK4.out.cell 1
          have c2 : W9.cell? ⟨w.heap.size, 2, none⟩ = some (.int .i64 c.wk) := HK4.out.cell 2
          have c3 : W9.cell? ⟨w.heap.size, 3, none⟩ = some (.int .i64 c.cp) := HK4.out.cell 3
          have c4 : W9.cell? ⟨w.heap.size, 4, none⟩ = some (.int .i64 c.sl) := HK4.out.cell 4
          have c5 : W9.cell? ⟨w.heap.size, 5, none⟩ = some (.int .i64 c.ba) := HK4.out.cell 5
          have c6 : W9.cell? ⟨w.heap.size, 6, none⟩ = some (.int .i64 c.le) := HK4.out.cell 6
          have c7 : W9.cell? ⟨w.heap.size, 7, none⟩ = some (.int .i64 c.he) := HK4.out.cell 7
          have c8 : W9.cell? ⟨w.heap.size, 8, none⟩ = some (.int .i64 c.fi) := HK4.out.cell 8
          have c9 : W9.cell? ⟨w.heap.size, 9, none⟩ = some (.int .i64 c.ca) := HK4.out.cell 9
          have c10 : W9.cell? ⟨w.heap.size, 10, none⟩ = some (.int .i64 c.ji) := HK4.out.cell 10
          have c11 : W9.cell? ⟨w.heap.size, 11, none⟩ = some (.int .i64 c.ne) := HK4.out.cell 11
          go_wp2_with fail
          refine (HWIN.out _ _ _ _ _ _ W9 (HC.out.below HB4.out rfl) (HR.out.below HB4.out rfl) (HG.out.below HB4.out rfl) HM1.out (fun r hr => Nat.le_trans (HM2.out r hr).1 (by decide)) HM3.out (by decide)).mono ?_
          rintro e W5 ⟨rfl, hb⟩
          rw [HWV.out]
          have HB5 := Lib.hid (HB4.out.trans (hb.mono HB4.out.size))
          clear hb HB4 HK4 c0 c1 c2 c3 c4 c5 c6 c7 c8 c9 c10 c11
          go_wp2_with fail
          refine (awake_any _).mono ?_
          rintro e W9 ⟨rfl, hb⟩
          have HB9 := Lib.hid (HB5.out.trans (hb.mono HB5.out.size))
          clear hb
          go_wp2_with fail
          go_ret
          exact ⟨rfl, HB9.out⟩
      · obtain ⟨r, hx⟩ : ∃ r, l[k]? = some r := ⟨_, List.getElem?_eq_getElem (by omega)⟩
        have hlq := lowI_bd x5 (ng : Int) (by omega)
        have HLWQ := Lib.hid (low_any x5 (ng : Int))
        generalize lowI x5 (ng : Int) = yq at *
        obtain ⟨q, rfl⟩ := Int.eq_ofNat_of_zero_le hlq.1
        have hq : q < ng := by omega
        clear hlq
        have HX := Lib.hid hx
        have HXM := Lib.hid (List.mem_iff_getElem?.2 ⟨k, hx⟩)
        have HTH := Lib.hid (show wr.there g (k * 12) 7 from HFL.out.there (k := k) (by omega) 0 7 (by decide))
        clear hx
        go_wp2_with fail
        refine (HLWQ.out wr (by omega) (by omega)).mono ?_
        rintro e w1 ⟨rfl, rfl⟩
        obtain ⟨gq, hgq⟩ : ∃ x, good[q]? = some x := ⟨_, List.getElem?_eq_getElem (by rw [HGN.out]; exact hq)⟩
        obtain ⟨bg, og, rfl, hbg, hcq⟩ := (HG.out.below HFL.out.bel rfl).2.2.2.2 q hq
        have cgq : wr.cell? ⟨bg, og + q, none⟩ = some (.int .i64 gq) := by rw [hcq]; simp [ints, hgq]
        have HGQ := Lib.hid hgq
        clear hcq hgq
        have HWF := Lib.hid (show WindowB c (l.set k { r with kind := 9, node := gq, at_ := 0, x := 0, q := ⟨#[]⟩, qk := 0, qn := 0 }) 0 (bn : Int) good = false from window_crash (i := k) (r := { r with kind := 9, node := gq, at_ := 0, x := 0, q := ⟨#[]⟩, qk := 0, qn := 0 }) (by rw [List.getElem?_set_self (by omega)]) hk rfl (List.mem_iff_getElem?.2 ⟨q, HGQ.out⟩))
        have HF4 := Lib.hid (show FLs w (wr.setCells g (k * 12) [.int .i64 9, .int .i64 gq, .int .i64 0, .int .i64 0, .string ⟨#[]⟩, .int .i64 0, .int .i64 0]) c (l.set k { r with kind := 9, node := gq, at_ := 0, x := 0, q := ⟨#[]⟩, qk := 0, qn := 0 }) sp g cp from
          HFL.out.write (j := 0) HX.out (by simp) rfl ⟨(HFL.out.all r HXM.out).1.sent, (HFL.out.all r HXM.out).1.lost, (HFL.out.all r HXM.out).1.ids, (HFL.out.all r HXM.out).1.los, (HFL.out.all r HXM.out).1.got⟩ (HFL.out.all r HXM.out).2.1 (HFL.out.all r HXM.out).2.2.1 (HFL.out.all r HXM.out).2.2.2)
        have HTL := Lib.hid (show (l.set k { r with kind := 9, node := gq, at_ := 0, x := 0, q := ⟨#[]⟩, qk := 0, qn := 0 }).length = l.length from by simp)
        go_wp2_with ((refine wpList_store_mid (by rfl) 67 _ _ (by rfl) g (k * 12) #[.int .i64 9, .int .i64 gq, .int .i64 0, .int .i64 0, .string ⟨#[]⟩, .int .i64 0, .int .i64 0] (by rfl) (by rfl) HTH.out (by kernel_rfl) (one7 9 gq 0 0 ⟨#[]⟩ 0 0) ?_; generalize hw3 : wr.setCells g (k * 12) _ = W3; have HF3 := Lib.hid (show FLs w W3 c _ sp g cp from by rw [← hw3]; exact HF4.out); clear hw3 HF4 HFL HTH; generalize l.set k { r with kind := 9, node := gq, at_ := 0, x := 0, q := ⟨#[]⟩, qk := 0, qn := 0 } = T at *; have c0 : W3.cell? ⟨w.heap.size, 0, none⟩ = some (.slice c.aw c.nw c.cw) := HF3.out.cfg.cell 0; have c1 : W3.cell? ⟨w.heap.size, 1, none⟩ = some (.slice c.ac c.nc c.cc) := HF3.out.cfg.cell 1; have c2 : W3.cell? ⟨w.heap.size, 2, none⟩ = some (.int .i64 c.wk) := HF3.out.cfg.cell 2; have c3 : W3.cell? ⟨w.heap.size, 3, none⟩ = some (.int .i64 c.cp) := HF3.out.cfg.cell 3; have c4 : W3.cell? ⟨w.heap.size, 4, none⟩ = some (.int .i64 c.sl) := HF3.out.cfg.cell 4; have c5 : W3.cell? ⟨w.heap.size, 5, none⟩ = some (.int .i64 c.ba) := HF3.out.cfg.cell 5; have c6 : W3.cell? ⟨w.heap.size, 6, none⟩ = some (.int .i64 c.le) := HF3.out.cfg.cell 6; have c7 : W3.cell? ⟨w.heap.size, 7, none⟩ = some (.int .i64 c.he) := HF3.out.cfg.cell 7; have c8 : W3.cell? ⟨w.heap.size, 8, none⟩ = some (.int .i64 c.fi) := HF3.out.cfg.cell 8; have c9 : W3.cell? ⟨w.heap.size, 9, none⟩ = some (.int .i64 c.ca) := HF3.out.cfg.cell 9; have c10 : W3.cell? ⟨w.heap.size, 10, none⟩ = some (.int .i64 c.ji) := HF3.out.cfg.cell 10; have c11 : W3.cell? ⟨w.heap.size, 11, none⟩ = some (.int .i64 c.ne) := HF3.out.cfg.cell 11))
        have HB3 := Lib.hid HF3.out.bel
        have HK3 := Lib.hid HF3.out.cfg
        have HT := Lib.hid HF3.out.recs
        have HMT1 := Lib.hid (show T.length ≤ 1000 from Nat.le_trans HF3.out.lim (by decide))
        have HMT2 := Lib.hid (show ∀ r ∈ T, r.sent.length ≤ 1000 from fun r hr => Nat.le_trans (HF3.out.all r hr).2.2.1 (by decide))
        rw [HTL.out] at HT
        clear HF3
        refine (HWIN.out _ _ _ _ _ _ W3 (HC.out.below HB3.out rfl) HT.out (HG.out.below HB3.out rfl) HMT1.out HMT2.out HM3.out (by decide)).mono ?_
        rintro e W4 ⟨rfl, hb⟩
        rw [HWF.out]
        have HB4 := Lib.hid (HB3.out.trans (hb.mono HB3.out.size))
        have HK4 := Lib.hid (show CfgB W4 w.heap.size c from Blk.below HK3.out hb (Blk.lt HK3.out))
        clear hb HB3 HK3 c0 c1 c2 c3 c4 c5 c6 c7 c8 c9 c10 c11
        have c0 : W4.cell? ⟨w.heap.size, 0, none⟩ = some (.slice c.aw c.nw c.cw) := HK4.out.cell 0
        have c1 : W4.cell? ⟨w.heap.size, 1, none⟩ = some (.slice c.ac c.nc c.cc) := HK4.out.cell 1
        have c2 : W4.cell? ⟨w.heap.size, 2, none⟩ = some (.int .i64 c.wk) := HK4.out.cell 2
        have c3 : W4.cell? ⟨w.heap.size, 3, none⟩ = some (.int .i64 c.cp) := HK4.out.cell 3
        have c4 : W4.cell? ⟨w.heap.size, 4, none⟩ = some (.int .i64 c.sl) := HK4.out.cell 4
        have c5 : W4.cell? ⟨w.heap.size, 5, none⟩ = some (.int .i64 c.ba) := HK4.out.cell 5
        have c6 : W4.cell? ⟨w.heap.size, 6, none⟩ = some (.int .i64 c.le) := HK4.out.cell 6
        have c7 : W4.cell? ⟨w.heap.size, 7, none⟩ = some (.int .i64 c.he) := HK4.out.cell 7
        have c8 : W4.cell? ⟨w.heap.size, 8, none⟩ = some (.int .i64 c.fi) := HK4.out.cell 8
        have c9 : W4.cell? ⟨w.heap.size, 9, none⟩ = some (.int .i64 c.ca) := HK4.out.cell 9
        have c10 : W4.cell? ⟨w.heap.size, 10, none⟩ = some (.int .i64 c.ji) := HK4.out.cell 10
        have c11 : W4.cell? ⟨w.heap.size, 11, none⟩ = some (.int .i64 c.ne) := HK4.out.cell 11
        go_wp2_with fail
        refine (HWIN.out _ _ _ _ _ _ W4 (HC.out.below HB4.out rfl) (HR.out.below HB4.out rfl) (HG.out.below HB4.out rfl) HM1.out (fun r hr => Nat.le_trans (HM2.out r hr).1 (by decide)) HM3.out (by decide)).mono ?_
        rintro e W5 ⟨rfl, hb⟩
        rw [HWV.out]
        have HB5 := Lib.hid (HB4.out.trans (hb.mono HB4.out.size))
        clear hb HB4 HK4 c0 c1 c2 c3 c4 c5 c6 c7 c8 c9 c10 c11
        go_wp2_with fail
        refine (awake_any _).mono ?_
        rintro e W9 ⟨rfl, hb⟩
        have HB9 := Lib.hid (HB5.out.trans (hb.mono HB5.out.size))
        clear hb
        go_wp2_with fail
        go_ret
        exact ⟨rfl, HB9.out⟩
      · go_wp2_with fail
        go_loopw [16] (fun v16 wq => StR w c l sp g cp bn v16 wq) (fun v _ => bn - (intOf v).toNat)
        case atStart => exact ⟨0, Nat.zero_le _, rfl, by unfold RowKit.Hid; rw [stillL_zero]; exact HFL.out⟩
        case round =>
          clear HFL
          obtain ⟨i, hi, rfl, HFL⟩ := hrel
          by_cases hlt : i < bn
          · obtain ⟨r, hx⟩ : ∃ r, l[i]? = some r := ⟨_, List.getElem?_eq_getElem (by omega)⟩
            have HX := Lib.hid hx
            have e0 : wr.cell? ⟨g, i * 12, none⟩ = some (.int .i64 r.kind) := HFL.out.cell (stillL_get hx) 0 (by decide)
            have HRA := Lib.hid (HFL.out.all r (List.mem_iff_getElem?.2 ⟨i, stillL_get hx⟩))
            by_cases hk3 : r.kind = 3
            · have d3 : (r.kind == 3) = true := by simpa using hk3
              have HTH := Lib.hid (show wr.there g (i * 12) 7 from HFL.out.there (k := i) (by rw [stillL_len]; omega) 0 7 (by decide))
              have HF4 := Lib.hid (show FLs w (wr.setCells g (i * 12) [.int .i64 0, .int .i64 0, .int .i64 0, .int .i64 0, .string ⟨#[]⟩, .int .i64 0, .int .i64 0]) c (stillL l (i + 1)) sp g cp from by
                rw [← stillL_succ hx]
                exact HFL.out.write (j := 0) (stillL_get hx) (by simp) (stillR_cells hk3) (stillR_in HRA.out.1) (stillR_off HRA.out.2.1) (by rw [stillR_sent]; exact HRA.out.2.2.1) (by rw [stillR_lost]; exact HRA.out.2.2.2))
              clear hx hk3 HRA
              go_wp2_with ((refine wpList_store_mid (by rfl) 67 _ _ (by rfl) g (i * 12) #[.int .i64 0, .int .i64 0, .int .i64 0, .int .i64 0, .string ⟨#[]⟩, .int .i64 0, .int .i64 0] (by rfl) (by rfl) HTH.out (by kernel_rfl) (one7 0 0 0 0 ⟨#[]⟩ 0 0) ?_; generalize hw3 : wr.setCells g (i * 12) _ = W3; have HF3 := Lib.hid (show FLs w W3 c _ sp g cp from by rw [← hw3]; exact HF4.out); clear hw3 HF4 HFL HTH e0))
              go_roundw
              case rel => exact ⟨i + 1, by omega, by go_num, HF3.out⟩
              case measure => simp [intOf]; omega
            · have d3 : (r.kind == 3) = false := by simpa using hk3
              have HF4 := Lib.hid (show FLs w wr c (stillL l (i + 1)) sp g cp from by rw [stillL_skip hx hk3]; exact HFL.out)
              clear hx hk3 HRA HFL
              go_wp2_with fail
              go_roundw
              case rel => exact ⟨i + 1, by omega, by go_num, HF4.out⟩
              case measure => simp [intOf]; omega
          · obtain rfl : i = bn := by omega
            have HF3 := Lib.hid HFL.out
            have HWF := Lib.hid (show WindowB c (stillL l i) 0 (i : Int) good = false from window_still fun j r hj h => stillL_tick hj h)
            have HTL := Lib.hid (stillL_len l i)
            clear HFL
            generalize stillL l i = T at *
            go_upto_region 23 with fail
            have c0 : wr.cell? ⟨w.heap.size, 0, none⟩ = some (.slice c.aw c.nw c.cw) := HF3.out.cfg.cell 0; have c1 : wr.cell? ⟨w.heap.size, 1, none⟩ = some (.slice c.ac c.nc c.cc) := HF3.out.cfg.cell 1; have c2 : wr.cell? ⟨w.heap.size, 2, none⟩ = some (.int .i64 c.wk) := HF3.out.cfg.cell 2; have c3 : wr.cell? ⟨w.heap.size, 3, none⟩ = some (.int .i64 c.cp) := HF3.out.cfg.cell 3; have c4 : wr.cell? ⟨w.heap.size, 4, none⟩ = some (.int .i64 c.sl) := HF3.out.cfg.cell 4; have c5 : wr.cell? ⟨w.heap.size, 5, none⟩ = some (.int .i64 c.ba) := HF3.out.cfg.cell 5; have c6 : wr.cell? ⟨w.heap.size, 6, none⟩ = some (.int .i64 c.le) := HF3.out.cfg.cell 6; have c7 : wr.cell? ⟨w.heap.size, 7, none⟩ = some (.int .i64 c.he) := HF3.out.cfg.cell 7; have c8 : wr.cell? ⟨w.heap.size, 8, none⟩ = some (.int .i64 c.fi) := HF3.out.cfg.cell 8; have c9 : wr.cell? ⟨w.heap.size, 9, none⟩ = some (.int .i64 c.ca) := HF3.out.cfg.cell 9; have c10 : wr.cell? ⟨w.heap.size, 10, none⟩ = some (.int .i64 c.ji) := HF3.out.cfg.cell 10; have c11 : wr.cell? ⟨w.heap.size, 11, none⟩ = some (.int .i64 c.ne) := HF3.out.cfg.cell 11
            go_wp2_with fail
            have HB3 := Lib.hid HF3.out.bel
            have HK3 := Lib.hid HF3.out.cfg
            have HT := Lib.hid HF3.out.recs
            have HMT1 := Lib.hid (show T.length ≤ 1000 from Nat.le_trans HF3.out.lim (by decide))
            have HMT2 := Lib.hid (show ∀ r ∈ T, r.sent.length ≤ 1000 from fun r hr => Nat.le_trans (HF3.out.all r hr).2.2.1 (by decide))
            rw [HTL.out] at HT
            clear HF3
            refine (HWIN.out _ _ _ _ _ _ wr (HC.out.below HB3.out rfl) HT.out (HG.out.below HB3.out rfl) HMT1.out HMT2.out HM3.out (by decide)).mono ?_
            rintro e W4 ⟨rfl, hb⟩
            rw [HWF.out]
            have HB4 := Lib.hid (HB3.out.trans (hb.mono HB3.out.size))
            have HK4 := Lib.hid (show CfgB W4 w.heap.size c from Blk.below HK3.out hb (Blk.lt HK3.out))
            clear hb HB3 HK3 c0 c1 c2 c3 c4 c5 c6 c7 c8 c9 c10 c11
            have c0 : W4.cell? ⟨w.heap.size, 0, none⟩ = some (.slice c.aw c.nw c.cw) := HK4.out.cell 0
            have c1 : W4.cell? ⟨w.heap.size, 1, none⟩ = some (.slice c.ac c.nc c.cc) := HK4.out.cell 1
            have c2 : W4.cell? ⟨w.heap.size, 2, none⟩ = some (.int .i64 c.wk) := HK4.out.cell 2
            have c3 : W4.cell? ⟨w.heap.size, 3, none⟩ = some (.int .i64 c.cp) := HK4.out.cell 3
            have c4 : W4.cell? ⟨w.heap.size, 4, none⟩ = some (.int .i64 c.sl) := HK4.out.cell 4
            have c5 : W4.cell? ⟨w.heap.size, 5, none⟩ = some (.int .i64 c.ba) := HK4.out.cell 5
            have c6 : W4.cell? ⟨w.heap.size, 6, none⟩ = some (.int .i64 c.le) := HK4.out.cell 6
            have c7 : W4.cell? ⟨w.heap.size, 7, none⟩ = some (.int .i64 c.he) := HK4.out.cell 7
            have c8 : W4.cell? ⟨w.heap.size, 8, none⟩ = some (.int .i64 c.fi) := HK4.out.cell 8
            have c9 : W4.cell? ⟨w.heap.size, 9, none⟩ = some (.int .i64 c.ca) := HK4.out.cell 9
            have c10 : W4.cell? ⟨w.heap.size, 10, none⟩ = some (.int .i64 c.ji) := HK4.out.cell 10
            have c11 : W4.cell? ⟨w.heap.size, 11, none⟩ = some (.int .i64 c.ne) := HK4.out.cell 11
            go_wp2_with fail
            refine (HWIN.out _ _ _ _ _ _ W4 (HC.out.below HB4.out rfl) (HR.out.below HB4.out rfl) (HG.out.below HB4.out rfl) HM1.out (fun r hr => Nat.le_trans (HM2.out r hr).1 (by decide)) HM3.out (by decide)).mono ?_
            rintro e W5 ⟨rfl, hb⟩
            rw [HWV.out]
            have HB5 := Lib.hid (HB4.out.trans (hb.mono HB4.out.size))
            clear hb HB4 HK4 c0 c1 c2 c3 c4 c5 c6 c7 c8 c9 c10 c11
            go_wp2_with fail
            refine (awake_any _).mono ?_
            rintro e W9 ⟨rfl, hb⟩
            have HB9 := Lib.hid (HB5.out.trans (hb.mono HB5.out.size))
            clear hb
            go_wp2_with fail
            go_ret
            exact ⟨rfl, HB9.out⟩
end Go.Proofs.Ytjdanngkmkgidaa
