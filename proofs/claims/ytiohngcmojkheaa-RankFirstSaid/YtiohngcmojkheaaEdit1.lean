/- The walk of edit.rows. -/
import Derived.Test.YtiohngcmojkheaaEdit0
import Derived.Test.YtiohngcmojkheaaRows
import Derived.Test.YtiohngcmojkheaaKit
import Derived.OwnWalk
import Derived.Laws.OwnMore
namespace Go.Proofs.Ytiohngcmojkheaa
open Go.RowKit
set_option linter.unusedVariables false

def i64s (l : List Int) : List Value := l.map (Value.int .i64)
theorem i64s_get {l : List Int} {i : Nat} {x : Int} (h : l[i]? = some x) : (i64s l)[i]? = some (.int .i64 x) := by unfold i64s; rw [List.getElem?_map, h]; rfl
theorem i64s_set (l : List Int) (i : Nat) (x : Int) : (i64s l).set i (.int .i64 x) = i64s (l.set i x) := by unfold i64s; rw [List.map_set]
def RdR (w : World) (a : Option Addr) (n c : Nat) (l : List Int) : Prop := Rd w a n c (l.map (Value.int .i32))
theorem RdR.len {w : World} {a : Option Addr} {n c : Nat} {l : List Int} (h : RdR w a n c l) : l.length = n := by have := h.1; simpa using this
theorem RdR.below {w w' : World} {a : Option Addr} {n c B : Nat} {l : List Int} (h : RdR w a n c l) (hb : Below B w w') (hB : B = w.heap.size) : RdR w' a n c l := Rd.below h hb hB
theorem RdR.at {w : World} {a : Option Addr} {n c : Nat} {l : List Int} (h : RdR w a n c l) {k : Nat} (hk : k < n) : ∃ b off, a = some ⟨b, off, none⟩ ∧ b < w.heap.size ∧ w.cell? ⟨b, off + k, none⟩ = some (.int .i32 (l.getD k 0)) := by
  obtain ⟨b, off, e, hl, hc⟩ := h.2.2.2.2 k hk
  refine ⟨b, off, e, hl, ?_⟩
  rw [hc, List.getElem?_map, List.getD_eq_getElem?_getD, List.getElem?_eq_getElem (by rw [h.len]; exact hk)]; rfl
theorem infoI : (Try.prog.info? 3).map (fun i => (i.zero, i.size, i.bytes)) = some (some (.int .i64 0), 1, 8) := by kernel_rfl
def idL (n : Nat) : List Int := (List.range n).map fun (i : Nat) => (i : Int)
theorem idL_get {n i : Nat} (h : i < n) : (idL n).getD i 0 = (i : Int) := by
  unfold idL
  rw [List.getD_eq_getElem?_getD, List.getElem?_map, List.getElem?_range h]; rfl
def zeroL (n : Nat) : List Int := List.replicate n 0
theorem blk_full {w : World} {base g n : Nat} {e : TypeId} {xs : List Value} (h : w.ownsRow base e 1 (.slice (some ⟨g, 0, none⟩) n n) n xs) : Blk w g e xs := by
  obtain ⟨sp, hl, hb⟩ := ownsRow_blk h
  have : sp = [] := List.eq_nil_of_length_eq_zero (by omega)
  rw [this, List.append_nil] at hb; exact hb
set_option maxRecDepth 100000 in
set_option maxHeartbeats 4000000 in
theorem rows_any (a : Option Addr) (n cap : Nat) (la : List Int) (b : Option Addr) (m bc : Nat) (lb : List Int) (w : World) (ha : RdR w a n cap la) (hb : RdR w b m bc lb) (h1 : la.length ≤ 1000) (h2 : lb.length ≤ 1000) :
    Calls Try.prog 75 #[.slice a n cap, .slice b m bc] w fun e w' => e = .returned (.slice (some ⟨w.heap.size, 0, none⟩) (la.length + 1) (la.length + 1)) ∧ Blk w' w.heap.size 3 (i64s (rowsL la lb)) ∧ Below w.heap.size w w' := by
  have hn := ha.len
  subst hn
  have hn := hb.len
  subst hn
  obtain ⟨i0, hi, hz0, hz1, hz2⟩ := info_parts infoI
  have HI := Lib.hid hi
  have HZ0 := Lib.hid hz0
  have HZ1 := Lib.hid hz1
  have HZ2 := Lib.hid hz2
  have HA := Lib.hid ha
  have HB := Lib.hid hb
  have hcap := ha.2.1
  have hcap2 := hb.2.1
  clear hi hz0 hz1 hz2 ha hb
  go_enter Try.func75, Try.ntmps75
  go_wp2_with (at_make; refine wpList_make_full w rfl _ _ 73 rfl w.heap.size 3 i0 (.int .i64 0) 1 Try.underlying73 HI.out HZ0.out HZ1.out .i64 .i64 _ _ (la.length + 1) rfl rfl (by omega) (by omega) (by rw [HZ2.out]; omega) (by unfold maxLen; omega) (Nat.le_refl _) ?_; intro w1 hown1 hg1; have HO1 := Lib.hid (blk_full hown1); have HW1 := Lib.hid ((Below.refl w.heap.size w).grown hg1 (Nat.le_refl _) (fun k hk => by cases hk)); clear hown1 hg1)
  have HM1 : RowKit.Hid (Blk w1 w.heap.size 3 (i64s (mix (idL (la.length + 1)) (zeroL (la.length + 1)) 0))) := by
    have := HO1.out
    rw [show (Value.int .i64 0).cells = #[.int .i64 0] from rfl, Nat.mul_one, toList_madeCells_one] at this
    rw [mix_0]; unfold i64s zeroL; rw [List.map_replicate]; exact this
  clear HO1
  have hl1 : (idL (la.length + 1)).length = (zeroL (la.length + 1)).length := by simp [idL, zeroL]
  have hl2 : (zeroL (la.length + 1)).length = la.length + 1 := by simp [zeroL]
  have HL1 := Lib.hid hl1
  have HL2 := Lib.hid hl2
  clear hl1 hl2
  go_loopw [6, 19] (fun _ i wr => ∃ k : Nat, k ≤ la.length + 1 ∧ i = .int .i64 k ∧ RowKit.Hid (Blk wr w.heap.size 3 (i64s (mix (idL (la.length + 1)) (zeroL (la.length + 1)) k))) ∧ RowKit.Hid (Below w.heap.size w wr)) (fun _ i _ => la.length + 1 - (intOf i).toNat)
  case atStart => exact ⟨0, by omega, rfl, HM1.out, HW1.out⟩
  case round =>
    clear HM1 HW1
    obtain ⟨k, hk, rfl, HM, HW⟩ := hrel
    by_cases hlt : k < la.length + 1
    · have hs := mix_set (idL (la.length + 1)) (zeroL (la.length + 1)) k HL1.out (by rw [HL2.out]; exact hlt)
      rw [idL_get hlt] at hs
      have HM2 := Lib.hid (HM.out.set k (.int .i64 (k : Int)))
      rw [i64s_set, hs] at HM2
      have c0 : wr.cell? ⟨w.heap.size, k, none⟩ = some (.int .i64 ((zeroL (la.length + 1)).getD k 0)) := by rw [HM.out.cell]; exact i64s_get (mix_hi _ _ _ _ HL1.out (Nat.le_refl _) (by rw [HL2.out]; exact hlt))
      have f0 : wr.frozen? ⟨w.heap.size, k, none⟩ = false := HM.out.frozen k
      have HW2 := Lib.hid (show Below w.heap.size w (wr.setCell ⟨w.heap.size, k, none⟩ (.int .i64 (k : Int))) from HW.out.setCell (Nat.le_refl _) _)
      clear hs
      generalize (zeroL (la.length + 1)).getD k 0 = z0 at c0
      go_wp2_with fail
      go_roundw
      case rel => exact ⟨k + 1, by omega, by go_num, HM2.out, HW2.out⟩
      case measure => simp [intOf]; omega
    · obtain rfl : k = la.length + 1 := by omega
      rw [mix_all _ _ _ HL1.out (by rw [HL2.out]; exact Nat.le_refl _)] at HM
      go_wp2_with fail
      obtain ⟨wo, rfl⟩ : ∃ wo : World, wo = wr := ⟨_, rfl⟩
      go_loopw [29] (fun i wr => ∃ k : Nat, k ≤ lb.length ∧ i = .int .i64 k ∧ RowKit.Hid (Blk wr w.heap.size 3 (i64s (rowAt la lb k))) ∧ RowKit.Hid (Below w.heap.size w wr)) (fun i _ => lb.length - (intOf i).toNat)
      case atStart => exact ⟨0, by omega, rfl, HM.out, HW.out⟩
      case round =>
        clear HM HW HL1 HL2 hlt hk
        obtain ⟨k, hk, rfl, HM, HW⟩ := hrel
        by_cases hlt : k < lb.length
        · obtain ⟨gb, ob, rfl, hbl, hcb⟩ := HB.out.at hlt
          have cb := (HW.out.cell (p := ⟨gb, ob + k, none⟩) hbl).trans hcb
          clear hcb
          have hol := rowAt_len la lb k
          have hnl := rowAt_len la lb (k + 1)
          have hne : (rowAt la lb (k + 1)).length = (rowAt la lb k).length := by rw [hol, hnl]
          have HOL := Lib.hid hol
          have HNE := Lib.hid hne
          have hbd := rowAt_bd la lb k 0 (by omega)
          have hn0 : (rowAt la lb (k + 1)).getD 0 0 = (k : Int) + 1 := by rw [rowAt, stepRow_get _ _ _ _ _ (by omega)]; rfl
          have hs := mix_set (rowAt la lb (k + 1)) (rowAt la lb k) 0 HNE.out (by rw [HOL.out]; omega)
          rw [hn0, mix_0] at hs
          have HM2 := Lib.hid (HM.out.set 0 (.int .i64 ((k : Int) + 1)))
          rw [i64s_set, hs] at HM2
          have c0 : wr.cell? ⟨w.heap.size, 0, none⟩ = some (.int .i64 ((rowAt la lb k).getD 0 0)) := by rw [HM.out.cell]; exact i64s_get (by rw [List.getD_eq_getElem?_getD, List.getElem?_eq_getElem (by rw [HOL.out]; omega)]; rfl)
          have f0 : wr.frozen? ⟨w.heap.size, 0, none⟩ = false := HM.out.frozen 0
          have HW2 := Lib.hid (show Below w.heap.size w (wr.setCell ⟨w.heap.size, 0, none⟩ (.int .i64 ((k : Int) + 1))) from HW.out.setCell (Nat.le_refl _) _)
          obtain ⟨x0, hx0⟩ : ∃ x, (rowAt la lb k).getD 0 0 = x := ⟨_, rfl⟩
          rw [hx0] at c0 hbd
          have HX0 := Lib.hid hx0
          clear hs hol hnl hne hn0 hx0 HM HW
          generalize hrr : lb.getD k 0 = rr at *
          have HRR := Lib.hid hrr
          clear hrr
          go_wp2_with fail
          generalize (wr.setCell ⟨w.heap.size, 0, none⟩ (.int .i64 ((k : Int) + 1))) = W2 at *
          clear c0 f0 cb
          go_loopw [9, 43] (fun v9 i wr => ∃ j : Nat, j ≤ la.length ∧ i = .int .i64 j ∧ v9 = .int .i64 ((rowAt la lb k).getD j 0) ∧ RowKit.Hid (Blk wr w.heap.size 3 (i64s (mix (rowAt la lb (k + 1)) (rowAt la lb k) (j + 1)))) ∧ RowKit.Hid (Below w.heap.size w wr)) (fun _ i _ => la.length - (intOf i).toNat)
          case atStart => exact ⟨0, by omega, rfl, by rw [HX0.out], HM2.out, HW2.out⟩
          case round =>
            clear HM2 HW2 HX0
            obtain ⟨j, hj, rfl, rfl, HM, HW⟩ := hrel
            have hb1 := rowAt_bd la lb k j hj
            by_cases hltj : j < la.length
            · obtain ⟨ga, oa, rfl, hbla, hca⟩ := HA.out.at hltj
              have ca := (HW.out.cell (p := ⟨ga, oa + j, none⟩) hbla).trans hca
              clear hca
              have hb2 := rowAt_bd la lb k (j + 1) (by omega)
              have hb3 := rowAt_bd la lb (k + 1) j (by omega)
              have hnew : (rowAt la lb (k + 1)).getD (j + 1) 0 = min3 ((rowAt la lb k).getD (j + 1) 0 + 1) ((rowAt la lb (k + 1)).getD j 0 + 1) ((rowAt la lb k).getD j 0 + (if la.getD j 0 = rr then 0 else 1)) := by
                rw [rowAt, stepRow_get _ _ _ _ _ (by omega), stepRow_get _ _ _ _ _ (by omega), newAt, HRR.out]
              have cz : wr.cell? ⟨w.heap.size, j, none⟩ = some (.int .i64 ((rowAt la lb (k + 1)).getD j 0)) := by rw [HM.out.cell]; exact i64s_get (mix_lo _ _ _ _ HNE.out (by rw [HOL.out]; omega) (by omega))
              have cy : wr.cell? ⟨w.heap.size, j + 1, none⟩ = some (.int .i64 ((rowAt la lb k).getD (j + 1) 0)) := by rw [HM.out.cell]; exact i64s_get (mix_hi _ _ _ _ HNE.out (by omega) (by rw [HOL.out]; omega))
              have fy : wr.frozen? ⟨w.heap.size, j + 1, none⟩ = false := HM.out.frozen (j + 1)
              have hs := mix_set (rowAt la lb (k + 1)) (rowAt la lb k) (j + 1) HNE.out (by rw [HOL.out]; omega)
              have HNX := Lib.hid (show RowKit.Hid (∃ y, (rowAt la lb k).getD (j + 1) 0 = y) from ⟨_, rfl⟩)
              have HY1 := Lib.hid (show (rowAt la lb k).getD (j + 1) 0 = (rowAt la lb k).getD (j + 1) 0 from rfl)
              revert hnew cz cy hs hb1 hb2 hb3 HY1
              generalize hx : (rowAt la lb k).getD j 0 = x
              generalize hy : (rowAt la lb k).getD (j + 1) 0 = y
              generalize hz : (rowAt la lb (k + 1)).getD j 0 = z
              generalize hv : (rowAt la lb (k + 1)).getD (j + 1) 0 = v
              generalize hq : la.getD j 0 = qq at *
              intro hb1 hb2 hb3 hnew cz cy hs HY1
              have HM2 := Lib.hid (HM.out.set (j + 1) (.int .i64 v))
              rw [i64s_set, hs] at HM2
              have HW2 := Lib.hid (show Below w.heap.size w (wr.setCell ⟨w.heap.size, j + 1, none⟩ (.int .i64 v)) from HW.out.setCell (Nat.le_refl _) _)
              have HYY := Lib.hid hy
              clear hs hx hy hz hv HNX HY1 HM HW hq
              by_cases hqr : qq = rr
              · subst hqr
                have dq : (qq != qq) = false := by simp
                have hmin : (if x < (if z < y then z + 1 else y + 1) then x else if z < y then z + 1 else y + 1) = v := by
                  rw [hnew, if_pos rfl]; unfold min3; simp only [Int.add_lt_add_iff_right, Int.add_zero]
                clear hnew
                go_wp2_with fail
                go_roundw
                case rel => exact ⟨j + 1, by omega, by go_num, by rw [HYY.out], HM2.out, HW2.out⟩
                case measure => simp [intOf]; omega
              · have dq : (qq != rr) = true := by simpa using hqr
                have hmin : (if x + 1 < (if z < y then z + 1 else y + 1) then x + 1 else if z < y then z + 1 else y + 1) = v := by
                  rw [hnew, if_neg hqr]; unfold min3; simp only [Int.add_lt_add_iff_right]
                clear hnew
                go_wp2_with fail
                go_roundw
                case rel => exact ⟨j + 1, by omega, by go_num, by rw [HYY.out], HM2.out, HW2.out⟩
                case measure => simp [intOf]; omega
            · obtain rfl : j = la.length := by omega
              rw [mix_all _ _ _ HNE.out (by rw [HOL.out]; exact Nat.le_refl _)] at HM
              go_wp2_with fail
              go_roundw
              case rel => exact ⟨k + 1, by omega, by go_num, HM.out, HW.out⟩
              case measure => simp [intOf]; omega
        · obtain rfl : k = lb.length := by omega
          go_wp2_with fail
          go_ret
          exact ⟨rfl, HM.out, HW.out⟩

theorem runesD_any (a : Option Addr) (n cap : Nat) (la : List Int) (b : Option Addr) (m bc : Nat) (lb : List Int) (w : World) (ha : RdR w a n cap la) (hb : RdR w b m bc lb) (h1 : la.length ≤ 1000) (h2 : lb.length ≤ 1000) :
    Calls Try.prog 64 #[.slice a n cap, .slice b m bc] w fun e w' => e = .returned (.int .i64 (distL la lb)) ∧ Below w.heap.size w w' := by
  have hn := ha.len
  subst hn
  have HR := Lib.hid (rows_any a la.length cap la b m bc lb w ha hb h1 h2)
  have hcap := ha.2.1
  have HLN := Lib.hid (rowAt_len la lb lb.length)
  obtain ⟨d, hd⟩ : ∃ d, distL la lb = d := ⟨_, rfl⟩
  rw [hd]
  have HD := Lib.hid hd
  clear ha hb hd
  go_enter Try.func64, Try.ntmps64
  go_wp2_with fail
  refine HR.out.mono ?_
  rintro e w' ⟨rfl, hbk, hb⟩
  have HB := Lib.hid hb
  have c0 : w'.cell? ⟨w.heap.size, la.length, none⟩ = some (.int .i64 d) := by
    rw [hbk.cell, ← HD.out]; exact i64s_get (by unfold distL rowsL; rw [List.getD_eq_getElem?_getD, List.getElem?_eq_getElem (by rw [HLN.out]; omega)]; rfl)
  clear hbk hb
  go_wp2_with fail
  go_ret
  exact ⟨rfl, HB.out⟩
end Go.Proofs.Ytiohngcmojkheaa
