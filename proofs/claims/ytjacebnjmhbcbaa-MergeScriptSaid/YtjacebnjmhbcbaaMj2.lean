/- same of chapter 22. -/
import Derived.Test.YtjacebnjmhbcbaaMj1
namespace Go.Proofs.Ytjacebnjmhbcbaa
open Go.RowKit
set_option linter.unusedVariables false

theorem drew_cell (W : World) (a : Addr) : W.drew.cell? a = W.cell? a := rfl
theorem rdE_own {w : World} {base n c : Nat} {ao : Option Addr} {l : List KeyL} (hn : l.length = n) (h : w.ownsRow base 31 2 (.slice ao n c) n (l.flatMap KeyL.cells)) : RdE KeyL.cells 2 w ao n c l := ownsRow_rdE (enc := KeyL.cells) (fun _ => rfl) hn h
set_option linter.unusedSimpArgs false in
set_option maxRecDepth 100000 in
set_option maxHeartbeats 4000000 in
theorem jsame_any (w0 w : World) (p q : Nat) (n : Int) (S : List PS) (T : List KeyL) (sh : Int) (h : J2 w0 w p q n S T S T) :
    Calls Try.prog 28 #[.pointer (some ⟨p, 0, none⟩), .pointer (some ⟨q, 0, none⟩), .int .i64 sh] w fun e w' => e = .returned (.bool true) ∧ Below w.heap.size w w' := by
  obtain ⟨gs, c, M, sp, ta, tc, qs, c', R, sp', ta', tc', hM, hR, h3, h4, h5, h6, hT, _⟩ := h
  have HM := Lib.hid hM
  have HRX := Lib.hid hR
  have hbd := hM.bd
  have HT := Lib.hid hT
  have hwl := wantsP_len2 n S T
  have HAF := Lib.hid (after_any w0.heap.size p n sh S T w hM.mg)
  have hqlt := hR.P.lt
  have hqslt := hR.G.lt
  clear hM hR h3 h4 h5 h6
  have hq1 : ∀ W : World, (binOp .eql 4 (.bool true) (.bool true)).run Try.prog W = .ok (.bool true) W := fun W => by kernel_rfl
  go_enter Try.func28, Try.ntmps28
  go_wp2_with fail
  refine HAF.out.mono ?_
  rintro e w1 ⟨rfl, hb⟩
  have HB1 := Lib.hid hb
  clear hb HAF
  obtain ⟨a1, ha1⟩ : ∃ x, (afterP S sh).1.1 = x := ⟨_, rfl⟩
  obtain ⟨a2, ha2⟩ : ∃ x, (afterP S sh).1.2 = x := ⟨_, rfl⟩
  obtain ⟨ah, hah⟩ : ∃ x, (afterP S sh).2 = x := ⟨_, rfl⟩
  rw [ha1, ha2, hah]
  have HA1 := Lib.hid ha1
  have HA2 := Lib.hid ha2
  have HAH := Lib.hid hah
  clear ha1 ha2 hah
  have hw1l : w.heap.size ≤ w1.heap.size := HB1.out.size
  have hs1 : (w1.alloc (.cells #[.int .i64 a1, .string a2] 31)).heap.size = w1.heap.size + 1 := by simp
  have hx7 : Blk ((w1.alloc (.cells #[.int .i64 a1, .string a2] 31)).alloc (.cells #[.int .i64 0, .string ⟨#[]⟩] 31)) w1.heap.size 31 [.int .i64 a1, .string a2] := Blk.alloc (heap_alloc_new w1 _) _
  have hx9 : Blk ((w1.alloc (.cells #[.int .i64 a1, .string a2] 31)).alloc (.cells #[.int .i64 0, .string ⟨#[]⟩] 31)) (w1.heap.size + 1) 31 [.int .i64 0, .string ⟨#[]⟩] := by rw [← hs1]; exact heap_alloc_new _ _
  have hb2 := (HB1.out.alloc HB1.out.size (.cells #[.int .i64 a1, .string a2] 31)).alloc (by rw [hs1]; omega) (.cells #[.int .i64 0, .string ⟨#[]⟩] 31)
  have hX2 := HRX.out.below hb2
  have c0 := hX2.c3.1
  obtain ⟨sl, hsl⟩ : ∃ sl, S.length = sl := ⟨_, rfl⟩
  rw [hsl] at c0 hbd
  have HSL := Lib.hid hsl
  have HX7 := Lib.hid hx7
  have HX9 := Lib.hid hx9
  have HB2 := Lib.hid hb2
  have hts : (a2.toList == a2.toList) = true := by simp
  have hl1 : (a1 == a1) = true := by simp
  have hah : (ah == ah) = true := by simp
  by_cases hr : 0 ≤ sh ∧ sh < (sl : Int)
  · obtain ⟨hr1, hr2⟩ := hr
    obtain ⟨k, rfl⟩ : ∃ k : Nat, sh = k := ⟨sh.toNat, by omega⟩
    obtain ⟨m, s, hm, hs, hsh, hat⟩ := hX2.at (show k < S.length by rw [hsl]; omega)
    obtain ⟨y0, y1, y2, y3, y4, y5, y6⟩ := hat.c2
    have hA : (afterP S k) = (s.last, s.heard) := by unfold afterP; rw [atS_yes, hs]
    have hQ : seqP S k = s.seq := by unfold seqP; rw [atS_yes, hs]
    have e1 : s.last.1 = a1 := by rw [← HA1.out, hA]
    have e2 : s.last.2 = a2 := by rw [← HA2.out, hA]
    have e3 : s.heard = ah := by rw [← HAH.out, hA]
    rw [hsh.seq] at y1
    rw [hsh.heard, e3] at y3
    rw [hsh.last, e1] at y4
    rw [hsh.last, e2] at y5
    have hql := hX2.P.lt
    have hqsl := hX2.G.lt
    obtain ⟨sq, hsq⟩ : ∃ x, s.seq = x := ⟨_, rfl⟩
    rw [hsq] at y1 hQ
    have HQ := Lib.hid hQ
    clear hsl hs1 hx7 hx9 hb2 hX2 hm hs hsh hat hA hQ e1 e2 e3 y0 y2 y6 HB1 hsq HA1 HA2 HAH
    go_wp2_with fail
    generalize (w1.alloc (.cells #[.int .i64 a1, .string a2] 31)).alloc (.cells #[.int .i64 0, .string ⟨#[]⟩] 31) = w2 at *
    have hn9 : qs ≠ w1.heap.size + 1 := by omega
    have hn9' : q ≠ w1.heap.size + 1 := by omega
    have h9q : ¬ w1.heap.size + 1 = q := by omega
    have h9s : ¬ w1.heap.size + 1 = qs := by omega
    have g0 := HX9.out.frozen 0
    have g1 := HX9.out.frozen 1
    have z0 := (HX9.out.cell 0).trans (show _ = some (.int .i64 0) from rfl)
    have z1 := (HX9.out.cell 1).trans (show _ = some (.string ⟨#[]⟩) from rfl)
    have h97 : w1.heap.size ≠ w1.heap.size + 1 := by omega
    go_region_held3 (fun w' => w'.cell? ⟨q, 0, none⟩ = some (.slice (some ⟨qs, 0, none⟩) sl c') ∧ w'.cell? ⟨qs, k * 7 + 1, none⟩ = some (.int .i64 sq) ∧ w'.cell? ⟨qs, k * 7 + 3, none⟩ = some (.bool ah) ∧ w'.cell? ⟨qs, k * 7 + 4, none⟩ = some (.int .i64 a1) ∧ w'.cell? ⟨qs, k * 7 + 5, none⟩ = some (.string a2)) (exact ⟨by first | exact c0 | (rw [drew_cell]; simp only [World.cell?_setCell_far, ne_eq, h9q, h9s, not_false_eq_true]; exact c0), by first | exact y1 | (rw [drew_cell]; simp only [World.cell?_setCell_far, ne_eq, h9q, h9s, not_false_eq_true]; exact y1), by first | exact y3 | (rw [drew_cell]; simp only [World.cell?_setCell_far, ne_eq, h9q, h9s, not_false_eq_true]; exact y3), by first | exact y4 | (rw [drew_cell]; simp only [World.cell?_setCell_far, ne_eq, h9q, h9s, not_false_eq_true]; exact y4), by first | exact y5 | (rw [drew_cell]; simp only [World.cell?_setCell_far, ne_eq, h9q, h9s, not_false_eq_true]; exact y5)⟩) (fail)
    all_goals
      go_wp2_with fail
      have HX7B := Lib.hid (show Blk (((w2.setCell ⟨w1.heap.size + 1, 0, none⟩ (.int .i64 a1)).setCell ⟨w1.heap.size + 1, 1, none⟩ (.string a2)).drew) w1.heap.size 31 [.int .i64 a1, .string a2] from (HX7.out.far _ _ (by exact h97)).far _ _ (by exact h97))
      have HX9B := Lib.hid (show Blk (((w2.setCell ⟨w1.heap.size + 1, 0, none⟩ (.int .i64 a1)).setCell ⟨w1.heap.size + 1, 1, none⟩ (.string a2)).drew) (w1.heap.size + 1) 31 [.int .i64 a1, .string a2] from (Blk.set (Blk.set HX9.out 0 _) 1 _))
      have HB3 := Lib.hid (show Below w.heap.size w (((w2.setCell ⟨w1.heap.size + 1, 0, none⟩ (.int .i64 a1)).setCell ⟨w1.heap.size + 1, 1, none⟩ (.string a2)).drew) from (below_drewN ((HB2.out.setCell (p := ⟨w1.heap.size + 1, 0, none⟩) (by show w.heap.size ≤ w1.heap.size + 1; omega) (.int .i64 a1)).setCell (p := ⟨w1.heap.size + 1, 1, none⟩) (by show w.heap.size ≤ w1.heap.size + 1; omega) (.string a2)) 1))
      clear HX7 HX9 HB2
      generalize (((w2.setCell ⟨w1.heap.size + 1, 0, none⟩ (.int .i64 a1)).setCell ⟨w1.heap.size + 1, 1, none⟩ (.string a2)).drew) = w3 at HX7B HX9B HB3 ⊢
      have hb1 : w1.heap.size < w3.heap.size := HX7B.out.lt
      have hb9 : w1.heap.size + 1 < w3.heap.size := HX9B.out.lt
      refine (told_any w0.heap.size p n S T _ (HM.out.below HB3.out).mg).mono ?_
      rintro e w4 ⟨ao4, c4, rfl, ho, hb⟩
      have HB4 := Lib.hid (HB3.out.trans (hb.mono HB3.out.size))
      have HX74 := Lib.hid (HX7B.out.below hb hb1)
      have HX94 := Lib.hid (HX9B.out.below hb hb9)
      have hb14 := HX74.out.lt
      have hb94 := HX94.out.lt
      have HO4 := Lib.hid (own0 ho HB3.out.size)
      clear ho hb HB3 HX7B HX9B hb1 hb9
      go_wp2_with fail
      refine (wants_any w0.heap.size p n S T _ (HM.out.below HB4.out).mg).mono ?_
      rintro e w5 ⟨ao5, c5, rfl, ho, hb⟩
      have HB5 := Lib.hid (HB4.out.trans (hb.mono HB4.out.size))
      have hx75 := HX74.out.below hb hb14
      have hx95 := HX94.out.below hb hb94
      have z70 := (hx75.cell 0).trans (show _ = some (.int .i64 a1) from rfl)
      have z71 := (hx75.cell 1).trans (show _ = some (.string a2) from rfl)
      have z90 := (hx95.cell 0).trans (show _ = some (.int .i64 a1) from rfl)
      have z91 := (hx95.cell 1).trans (show _ = some (.string a2) from rfl)
      have HO5 := Lib.hid (ownsRow_frm (S := fun _ => False) HO4.out (Frm.below hb) (fun _ _ h => h.elim))
      have HI5 := Lib.hid (own0 ho HB4.out.size)
      obtain ⟨wl, hwle⟩ : ∃ l, wantsP n S T = l := ⟨_, rfl⟩
      rw [hwle] at HI5 hwl ⊢
      have HWE := Lib.hid hwle
      clear ho hb HB4 HX74 HX94 HO4 hx75 hx95 hb14 hb94 hwle
      go_wp2_with fail
      refine (seq_any w0.heap.size p n (k : Int) S T _ (HM.out.below HB5.out).mg).mono ?_
      rintro e w' ⟨rfl, rfl⟩
      rw [HQ.out]
      have hsqe : (sq == sq) = true := by simp
      go_wp2_with fail
      refine (done_any w0.heap.size p n S T _ (HM.out.below HB5.out).mg).mono ?_
      rintro e w6 ⟨rfl, hb⟩
      have HB6 := Lib.hid (HB5.out.trans (hb.mono HB5.out.size))
      have HO6 := Lib.hid (ownsRow_frm (S := fun _ => False) HO5.out (Frm.below hb) (fun _ _ h => h.elim))
      have HI6 := Lib.hid (ownsRow_frm (S := fun _ => False) HI5.out (Frm.below hb) (fun _ _ h => h.elim))
      clear hb HO5 HI5
      have HDR := Lib.hid (rdone_any q n S T w6 qs c' R sp' ta' tc' (HRX.out.below HB6.out) HT.out)
      obtain ⟨D, hD⟩ : ∃ D, doneP n S T = D := ⟨_, rfl⟩
      rw [hD] at HDR ⊢
      have hdd : (D == D) = true := by simp
      clear hD
      go_wp2_with fail
      refine HDR.out.mono ?_
      rintro e w7 ⟨rfl, hd⟩
      have hb7 := hd.below w6.heap.size
      have HB7 := Lib.hid (HB6.out.trans (hb7.mono HB6.out.size))
      have HO7 := Lib.hid (ownsRow_frm (S := fun _ => False) HO6.out (Frm.below hb7) (fun _ _ h => h.elim))
      have HI7 := Lib.hid (ownsRow_frm (S := fun _ => False) HI6.out (Frm.below hb7) (fun _ _ h => h.elim))
      have q2 := (HRX.out.below HB7.out).c3.2.2
      clear hd hb7 HO6 HI6 HB5 HB6 HDR
      have hrT := (HRX.out.below HB7.out).told
      go_wp2_with fail
      refine (sameI_any ao4 T.length c4 ta' T.length tc' T T w7 (rdE_own rfl HO7.out) hrT).mono ?_
      rintro e w8 ⟨rfl, hd⟩
      have hb8 := hd.below w7.heap.size
      have HB8 := Lib.hid (HB7.out.trans (hb8.mono HB7.out.size))
      have HO8 := Lib.hid (ownsRow_frm (S := fun _ => False) HO7.out (Frm.below hb8) (fun _ _ h => h.elim))
      have HI8 := Lib.hid (ownsRow_frm (S := fun _ => False) HI7.out (Frm.below hb8) (fun _ _ h => h.elim))
      clear hd hb8 HO7 HI7 HB7 q2 hrT
      rw [show eqIs T T = true from by simp [eqIs]]
      go_wp2_with fail
      refine (rwants_any q n S T w8 qs c' R sp' ta' tc' (HRX.out.below HB8.out) HT.out).mono ?_
      rintro e w9 ⟨ao9, c9, rfl, ho, hb⟩
      rw [HWE.out] at ho ⊢
      have HB9 := Lib.hid (HB8.out.trans (hb.mono HB8.out.size))
      have HO9 := Lib.hid (ownsRow_frm (S := fun _ => False) HO8.out (Frm.below hb) (fun _ _ h => h.elim))
      have HI9 := Lib.hid (ownsRow_frm (S := fun _ => False) HI8.out (Frm.below hb) (fun _ _ h => h.elim))
      have HJ9 := Lib.hid (ownI ho)
      clear ho hb HO8 HI8 HB8
      have hw6 : wl.length ≤ 1000 := by have := HSL.out; omega
      go_wp2_with fail
      refine (same_any ao5 ao9 _ _ c5 c9 wl wl w9 (ownI HI9.out) HJ9.out hw6 hw6).mono ?_
      rintro e w10 ⟨rfl, hd⟩
      have hb10 := hd.below w9.heap.size
      have HB10 := Lib.hid (HB9.out.trans (hb10.mono HB9.out.size))
      have HO10 := Lib.hid (ownsRow_frm (S := fun _ => False) HO9.out (Frm.below hb10) (fun _ _ h => h.elim))
      have HI10 := Lib.hid (ownsRow_frm (S := fun _ => False) HI9.out (Frm.below hb10) (fun _ _ h => h.elim))
      clear hd hb10 HO9 HI9 HJ9 HB9
      rw [show sameB wl wl = true from by simp [sameB]]
      have hT1 : T.length ≤ 1000 := by omega
      go_wp2_with fail
      refine (overI_any w.heap.size T.length c4 ao4 _ w10 HO10.out hT1).mono ?_
      rintro e w11 ⟨rfl, hf⟩
      have HB11 := Lib.hid (HB10.out.trans (hf.toBelow HB10.out.size (fun i hi e => by have := own_ge HO10.out i e; omega)))
      have HI11 := Lib.hid (ownsRow_frm HI10.out hf (fun j hj e => ownsRow_ne2 HI10.out HO10.out (by decide) j hj e))
      clear hf HI10 HO10 HB10
      go_wp2_with fail
      refine (over_any w.heap.size wl.length c5 ao5 _ w11 HI11.out hw6).mono ?_
      rintro e w12 ⟨rfl, hf⟩
      have HB12 := Lib.hid (HB11.out.trans (hf.toBelow HB11.out.size (fun i hi e => by have := own_ge HI11.out i e; omega)))
      clear hf HI11 HB11
      go_wp2_with fail
      go_ret
      exact ⟨rfl, HB12.out⟩
  · have hA : (afterP S sh) = ((0, ⟨#[]⟩), false) := by unfold afterP; rw [atS_no (by rw [hsl]; omega)]
    have hQ : seqP S sh = 0 := by unfold seqP; rw [atS_no (by rw [hsl]; omega)]
    obtain rfl : a1 = 0 := by rw [← HA1.out, hA]
    obtain rfl : a2 = ⟨#[]⟩ := by rw [← HA2.out, hA]
    obtain rfl : ah = false := by rw [← HAH.out, hA]
    have HQ := Lib.hid hQ
    clear hsl hs1 hx7 hx9 hb2 hX2 hA hQ HB1 HA1 HA2 HAH
    by_cases hr0 : 0 ≤ sh
    · have d1 : decide ((0 : Int) ≤ sh) = true := by simpa using hr0
      have d2 : decide (sh < (sl : Int)) = false := by simp; omega
      clear hr
      go_wp2_with fail
      have HX7B := Lib.hid (show Blk ((w1.alloc (.cells #[.int .i64 0, .string ⟨#[]⟩] 31)).alloc (.cells #[.int .i64 0, .string ⟨#[]⟩] 31)) w1.heap.size 31 [.int .i64 0, .string ⟨#[]⟩] from HX7.out)
      have HX9B := Lib.hid (show Blk ((w1.alloc (.cells #[.int .i64 0, .string ⟨#[]⟩] 31)).alloc (.cells #[.int .i64 0, .string ⟨#[]⟩] 31)) (w1.heap.size + 1) 31 [.int .i64 0, .string ⟨#[]⟩] from HX9.out)
      have HB3 := Lib.hid (show Below w.heap.size w ((w1.alloc (.cells #[.int .i64 0, .string ⟨#[]⟩] 31)).alloc (.cells #[.int .i64 0, .string ⟨#[]⟩] 31)) from HB2.out)
      clear HX7 HX9 HB2
      generalize ((w1.alloc (.cells #[.int .i64 0, .string ⟨#[]⟩] 31)).alloc (.cells #[.int .i64 0, .string ⟨#[]⟩] 31)) = w3 at HX7B HX9B HB3 ⊢
      have hb1 : w1.heap.size < w3.heap.size := HX7B.out.lt
      have hb9 : w1.heap.size + 1 < w3.heap.size := HX9B.out.lt
      refine (told_any w0.heap.size p n S T _ (HM.out.below HB3.out).mg).mono ?_
      rintro e w4 ⟨ao4, c4, rfl, ho, hb⟩
      have HB4 := Lib.hid (HB3.out.trans (hb.mono HB3.out.size))
      have HX74 := Lib.hid (HX7B.out.below hb hb1)
      have HX94 := Lib.hid (HX9B.out.below hb hb9)
      have hb14 := HX74.out.lt
      have hb94 := HX94.out.lt
      have HO4 := Lib.hid (own0 ho HB3.out.size)
      clear ho hb HB3 HX7B HX9B hb1 hb9
      go_wp2_with fail
      refine (wants_any w0.heap.size p n S T _ (HM.out.below HB4.out).mg).mono ?_
      rintro e w5 ⟨ao5, c5, rfl, ho, hb⟩
      have HB5 := Lib.hid (HB4.out.trans (hb.mono HB4.out.size))
      have hx75 := HX74.out.below hb hb14
      have hx95 := HX94.out.below hb hb94
      have z70 := (hx75.cell 0).trans (show _ = some (.int .i64 0) from rfl)
      have z71 := (hx75.cell 1).trans (show _ = some (.string ⟨#[]⟩) from rfl)
      have z90 := (hx95.cell 0).trans (show _ = some (.int .i64 0) from rfl)
      have z91 := (hx95.cell 1).trans (show _ = some (.string ⟨#[]⟩) from rfl)
      have HO5 := Lib.hid (ownsRow_frm (S := fun _ => False) HO4.out (Frm.below hb) (fun _ _ h => h.elim))
      have HI5 := Lib.hid (own0 ho HB4.out.size)
      obtain ⟨wl, hwle⟩ : ∃ l, wantsP n S T = l := ⟨_, rfl⟩
      rw [hwle] at HI5 hwl ⊢
      have HWE := Lib.hid hwle
      clear ho hb HB4 HX74 HX94 HO4 hx75 hx95 hb14 hb94 hwle
      go_wp2_with fail
      refine (seq_any w0.heap.size p n sh S T _ (HM.out.below HB5.out).mg).mono ?_
      rintro e w' ⟨rfl, rfl⟩
      rw [HQ.out]
      have hsqe : ((0 : Int) == (0 : Int)) = true := by simp
      go_wp2_with fail
      refine (done_any w0.heap.size p n S T _ (HM.out.below HB5.out).mg).mono ?_
      rintro e w6 ⟨rfl, hb⟩
      have HB6 := Lib.hid (HB5.out.trans (hb.mono HB5.out.size))
      have HO6 := Lib.hid (ownsRow_frm (S := fun _ => False) HO5.out (Frm.below hb) (fun _ _ h => h.elim))
      have HI6 := Lib.hid (ownsRow_frm (S := fun _ => False) HI5.out (Frm.below hb) (fun _ _ h => h.elim))
      clear hb HO5 HI5
      have HDR := Lib.hid (rdone_any q n S T w6 qs c' R sp' ta' tc' (HRX.out.below HB6.out) HT.out)
      obtain ⟨D, hD⟩ : ∃ D, doneP n S T = D := ⟨_, rfl⟩
      rw [hD] at HDR ⊢
      have hdd : (D == D) = true := by simp
      clear hD
      go_wp2_with fail
      refine HDR.out.mono ?_
      rintro e w7 ⟨rfl, hd⟩
      have hb7 := hd.below w6.heap.size
      have HB7 := Lib.hid (HB6.out.trans (hb7.mono HB6.out.size))
      have HO7 := Lib.hid (ownsRow_frm (S := fun _ => False) HO6.out (Frm.below hb7) (fun _ _ h => h.elim))
      have HI7 := Lib.hid (ownsRow_frm (S := fun _ => False) HI6.out (Frm.below hb7) (fun _ _ h => h.elim))
      have q2 := (HRX.out.below HB7.out).c3.2.2
      clear hd hb7 HO6 HI6 HB5 HB6 HDR
      have hrT := (HRX.out.below HB7.out).told
      go_wp2_with fail
      refine (sameI_any ao4 T.length c4 ta' T.length tc' T T w7 (rdE_own rfl HO7.out) hrT).mono ?_
      rintro e w8 ⟨rfl, hd⟩
      have hb8 := hd.below w7.heap.size
      have HB8 := Lib.hid (HB7.out.trans (hb8.mono HB7.out.size))
      have HO8 := Lib.hid (ownsRow_frm (S := fun _ => False) HO7.out (Frm.below hb8) (fun _ _ h => h.elim))
      have HI8 := Lib.hid (ownsRow_frm (S := fun _ => False) HI7.out (Frm.below hb8) (fun _ _ h => h.elim))
      clear hd hb8 HO7 HI7 HB7 q2 hrT
      rw [show eqIs T T = true from by simp [eqIs]]
      go_wp2_with fail
      refine (rwants_any q n S T w8 qs c' R sp' ta' tc' (HRX.out.below HB8.out) HT.out).mono ?_
      rintro e w9 ⟨ao9, c9, rfl, ho, hb⟩
      rw [HWE.out] at ho ⊢
      have HB9 := Lib.hid (HB8.out.trans (hb.mono HB8.out.size))
      have HO9 := Lib.hid (ownsRow_frm (S := fun _ => False) HO8.out (Frm.below hb) (fun _ _ h => h.elim))
      have HI9 := Lib.hid (ownsRow_frm (S := fun _ => False) HI8.out (Frm.below hb) (fun _ _ h => h.elim))
      have HJ9 := Lib.hid (ownI ho)
      clear ho hb HO8 HI8 HB8
      have hw6 : wl.length ≤ 1000 := by have := HSL.out; omega
      go_wp2_with fail
      refine (same_any ao5 ao9 _ _ c5 c9 wl wl w9 (ownI HI9.out) HJ9.out hw6 hw6).mono ?_
      rintro e w10 ⟨rfl, hd⟩
      have hb10 := hd.below w9.heap.size
      have HB10 := Lib.hid (HB9.out.trans (hb10.mono HB9.out.size))
      have HO10 := Lib.hid (ownsRow_frm (S := fun _ => False) HO9.out (Frm.below hb10) (fun _ _ h => h.elim))
      have HI10 := Lib.hid (ownsRow_frm (S := fun _ => False) HI9.out (Frm.below hb10) (fun _ _ h => h.elim))
      clear hd hb10 HO9 HI9 HJ9 HB9
      rw [show sameB wl wl = true from by simp [sameB]]
      have hT1 : T.length ≤ 1000 := by omega
      go_wp2_with fail
      refine (overI_any w.heap.size T.length c4 ao4 _ w10 HO10.out hT1).mono ?_
      rintro e w11 ⟨rfl, hf⟩
      have HB11 := Lib.hid (HB10.out.trans (hf.toBelow HB10.out.size (fun i hi e => by have := own_ge HO10.out i e; omega)))
      have HI11 := Lib.hid (ownsRow_frm HI10.out hf (fun j hj e => ownsRow_ne2 HI10.out HO10.out (by decide) j hj e))
      clear hf HI10 HO10 HB10
      go_wp2_with fail
      refine (over_any w.heap.size wl.length c5 ao5 _ w11 HI11.out hw6).mono ?_
      rintro e w12 ⟨rfl, hf⟩
      have HB12 := Lib.hid (HB11.out.trans (hf.toBelow HB11.out.size (fun i hi e => by have := own_ge HI11.out i e; omega)))
      clear hf HI11 HB11
      go_wp2_with fail
      go_ret
      exact ⟨rfl, HB12.out⟩
    · have d1 : decide ((0 : Int) ≤ sh) = false := by simpa using hr0
      clear hr
      go_wp2_with fail
      have HX7B := Lib.hid (show Blk ((w1.alloc (.cells #[.int .i64 0, .string ⟨#[]⟩] 31)).alloc (.cells #[.int .i64 0, .string ⟨#[]⟩] 31)) w1.heap.size 31 [.int .i64 0, .string ⟨#[]⟩] from HX7.out)
      have HX9B := Lib.hid (show Blk ((w1.alloc (.cells #[.int .i64 0, .string ⟨#[]⟩] 31)).alloc (.cells #[.int .i64 0, .string ⟨#[]⟩] 31)) (w1.heap.size + 1) 31 [.int .i64 0, .string ⟨#[]⟩] from HX9.out)
      have HB3 := Lib.hid (show Below w.heap.size w ((w1.alloc (.cells #[.int .i64 0, .string ⟨#[]⟩] 31)).alloc (.cells #[.int .i64 0, .string ⟨#[]⟩] 31)) from HB2.out)
      clear HX7 HX9 HB2
      generalize ((w1.alloc (.cells #[.int .i64 0, .string ⟨#[]⟩] 31)).alloc (.cells #[.int .i64 0, .string ⟨#[]⟩] 31)) = w3 at HX7B HX9B HB3 ⊢
      have hb1 : w1.heap.size < w3.heap.size := HX7B.out.lt
      have hb9 : w1.heap.size + 1 < w3.heap.size := HX9B.out.lt
      refine (told_any w0.heap.size p n S T _ (HM.out.below HB3.out).mg).mono ?_
      rintro e w4 ⟨ao4, c4, rfl, ho, hb⟩
      have HB4 := Lib.hid (HB3.out.trans (hb.mono HB3.out.size))
      have HX74 := Lib.hid (HX7B.out.below hb hb1)
      have HX94 := Lib.hid (HX9B.out.below hb hb9)
      have hb14 := HX74.out.lt
      have hb94 := HX94.out.lt
      have HO4 := Lib.hid (own0 ho HB3.out.size)
      clear ho hb HB3 HX7B HX9B hb1 hb9
      go_wp2_with fail
      refine (wants_any w0.heap.size p n S T _ (HM.out.below HB4.out).mg).mono ?_
      rintro e w5 ⟨ao5, c5, rfl, ho, hb⟩
      have HB5 := Lib.hid (HB4.out.trans (hb.mono HB4.out.size))
      have hx75 := HX74.out.below hb hb14
      have hx95 := HX94.out.below hb hb94
      have z70 := (hx75.cell 0).trans (show _ = some (.int .i64 0) from rfl)
      have z71 := (hx75.cell 1).trans (show _ = some (.string ⟨#[]⟩) from rfl)
      have z90 := (hx95.cell 0).trans (show _ = some (.int .i64 0) from rfl)
      have z91 := (hx95.cell 1).trans (show _ = some (.string ⟨#[]⟩) from rfl)
      have HO5 := Lib.hid (ownsRow_frm (S := fun _ => False) HO4.out (Frm.below hb) (fun _ _ h => h.elim))
      have HI5 := Lib.hid (own0 ho HB4.out.size)
      obtain ⟨wl, hwle⟩ : ∃ l, wantsP n S T = l := ⟨_, rfl⟩
      rw [hwle] at HI5 hwl ⊢
      have HWE := Lib.hid hwle
      clear ho hb HB4 HX74 HX94 HO4 hx75 hx95 hb14 hb94 hwle
      go_wp2_with fail
      refine (seq_any w0.heap.size p n sh S T _ (HM.out.below HB5.out).mg).mono ?_
      rintro e w' ⟨rfl, rfl⟩
      rw [HQ.out]
      have hsqe : ((0 : Int) == (0 : Int)) = true := by simp
      go_wp2_with fail
      refine (done_any w0.heap.size p n S T _ (HM.out.below HB5.out).mg).mono ?_
      rintro e w6 ⟨rfl, hb⟩
      have HB6 := Lib.hid (HB5.out.trans (hb.mono HB5.out.size))
      have HO6 := Lib.hid (ownsRow_frm (S := fun _ => False) HO5.out (Frm.below hb) (fun _ _ h => h.elim))
      have HI6 := Lib.hid (ownsRow_frm (S := fun _ => False) HI5.out (Frm.below hb) (fun _ _ h => h.elim))
      clear hb HO5 HI5
      have HDR := Lib.hid (rdone_any q n S T w6 qs c' R sp' ta' tc' (HRX.out.below HB6.out) HT.out)
      obtain ⟨D, hD⟩ : ∃ D, doneP n S T = D := ⟨_, rfl⟩
      rw [hD] at HDR ⊢
      have hdd : (D == D) = true := by simp
      clear hD
      go_wp2_with fail
      refine HDR.out.mono ?_
      rintro e w7 ⟨rfl, hd⟩
      have hb7 := hd.below w6.heap.size
      have HB7 := Lib.hid (HB6.out.trans (hb7.mono HB6.out.size))
      have HO7 := Lib.hid (ownsRow_frm (S := fun _ => False) HO6.out (Frm.below hb7) (fun _ _ h => h.elim))
      have HI7 := Lib.hid (ownsRow_frm (S := fun _ => False) HI6.out (Frm.below hb7) (fun _ _ h => h.elim))
      have q2 := (HRX.out.below HB7.out).c3.2.2
      clear hd hb7 HO6 HI6 HB5 HB6 HDR
      have hrT := (HRX.out.below HB7.out).told
      go_wp2_with fail
      refine (sameI_any ao4 T.length c4 ta' T.length tc' T T w7 (rdE_own rfl HO7.out) hrT).mono ?_
      rintro e w8 ⟨rfl, hd⟩
      have hb8 := hd.below w7.heap.size
      have HB8 := Lib.hid (HB7.out.trans (hb8.mono HB7.out.size))
      have HO8 := Lib.hid (ownsRow_frm (S := fun _ => False) HO7.out (Frm.below hb8) (fun _ _ h => h.elim))
      have HI8 := Lib.hid (ownsRow_frm (S := fun _ => False) HI7.out (Frm.below hb8) (fun _ _ h => h.elim))
      clear hd hb8 HO7 HI7 HB7 q2 hrT
      rw [show eqIs T T = true from by simp [eqIs]]
      go_wp2_with fail
      refine (rwants_any q n S T w8 qs c' R sp' ta' tc' (HRX.out.below HB8.out) HT.out).mono ?_
      rintro e w9 ⟨ao9, c9, rfl, ho, hb⟩
      rw [HWE.out] at ho ⊢
      have HB9 := Lib.hid (HB8.out.trans (hb.mono HB8.out.size))
      have HO9 := Lib.hid (ownsRow_frm (S := fun _ => False) HO8.out (Frm.below hb) (fun _ _ h => h.elim))
      have HI9 := Lib.hid (ownsRow_frm (S := fun _ => False) HI8.out (Frm.below hb) (fun _ _ h => h.elim))
      have HJ9 := Lib.hid (ownI ho)
      clear ho hb HO8 HI8 HB8
      have hw6 : wl.length ≤ 1000 := by have := HSL.out; omega
      go_wp2_with fail
      refine (same_any ao5 ao9 _ _ c5 c9 wl wl w9 (ownI HI9.out) HJ9.out hw6 hw6).mono ?_
      rintro e w10 ⟨rfl, hd⟩
      have hb10 := hd.below w9.heap.size
      have HB10 := Lib.hid (HB9.out.trans (hb10.mono HB9.out.size))
      have HO10 := Lib.hid (ownsRow_frm (S := fun _ => False) HO9.out (Frm.below hb10) (fun _ _ h => h.elim))
      have HI10 := Lib.hid (ownsRow_frm (S := fun _ => False) HI9.out (Frm.below hb10) (fun _ _ h => h.elim))
      clear hd hb10 HO9 HI9 HJ9 HB9
      rw [show sameB wl wl = true from by simp [sameB]]
      have hT1 : T.length ≤ 1000 := by omega
      go_wp2_with fail
      refine (overI_any w.heap.size T.length c4 ao4 _ w10 HO10.out hT1).mono ?_
      rintro e w11 ⟨rfl, hf⟩
      have HB11 := Lib.hid (HB10.out.trans (hf.toBelow HB10.out.size (fun i hi e => by have := own_ge HO10.out i e; omega)))
      have HI11 := Lib.hid (ownsRow_frm HI10.out hf (fun j hj e => ownsRow_ne2 HI10.out HO10.out (by decide) j hj e))
      clear hf HI10 HO10 HB10
      go_wp2_with fail
      refine (over_any w.heap.size wl.length c5 ao5 _ w11 HI11.out hw6).mono ?_
      rintro e w12 ⟨rfl, hf⟩
      have HB12 := Lib.hid (HB11.out.trans (hf.toBelow HB11.out.size (fun i hi e => by have := own_ge HI11.out i e; omega)))
      clear hf HI11 HB11
      go_wp2_with fail
      go_ret
      exact ⟨rfl, HB12.out⟩
end Go.Proofs.Ytjacebnjmhbcbaa
