/- The walk of SumTurned. -/
import Derived.Test.YtcjfiofnidnlaaaSum4
import Derived.Test.YtcjfiofnidnlaaaSum5
import Derived.Test.YtcjfiofnidnlaaaLow
import Derived.RegionTactic
import Derived.ChangeAlike
import Derived.BigRegion
namespace Go.Proofs.Ytcjfiofnidnlaaa
open Go.RowKit
set_option linter.unusedVariables false

theorem ownsRow_some {w : World} {base : Nat} {e : TypeId} {size : Nat} {ao : Option Addr} {n cap : Nat} {xs : List Value} (h : w.ownsRow base e size (.slice ao n cap) n xs) (hn : 0 < n) : ∃ g, ao = some ⟨g, 0, none⟩ ∧ base ≤ g := by
  rcases h.2 with ⟨h', rfl⟩ | ⟨g, cap', cur, h', hb, _⟩
  · omega
  · simp at h'; obtain ⟨rfl, _⟩ := h'; exact ⟨g, rfl, hb⟩
theorem wrap_u8 (n : Int) : IntKind.u8.wrap n = n % 256 := by simp [IntKind.wrap, IntKind.bits, IntKind.signed]
theorem bits_xor_u8 (a b : Nat) (ha : a < 256) (hb : b < 256) : bits .xor .u8 (a : Int) (b : Int) = ((a ^^^ b : Nat) : Int) := by
  have hx : a ^^^ b < 2 ^ 8 := Nat.xor_lt_two_pow (by omega) (by omega)
  have h1 : (BitVec.ofInt 8 (a : Int)).toNat = a := by
    rw [BitVec.ofInt_natCast, BitVec.toNat_ofNat]; exact Nat.mod_eq_of_lt (by omega)
  have h2 : (BitVec.ofInt 8 (b : Int)).toNat = b := by
    rw [BitVec.ofInt_natCast, BitVec.toNat_ofNat]; exact Nat.mod_eq_of_lt (by omega)
  show IntKind.u8.wrap ((BitVec.ofInt 8 (a : Int) ^^^ BitVec.ofInt 8 (b : Int)).toNat : Int) = _
  rw [BitVec.toNat_xor, h1, h2, wrap_u8]
  omega

set_option maxHeartbeats 800000 in
theorem turned_walk (a : Option Addr) (n cap : Nat) (l : List Nat) (at' : Int) (t : Nat) (w : World) (hb : ∀ x ∈ l, x < 256) (hr : Rd w a n cap (u8s l)) (ht : t < 4294967296) :
    Calls Try.prog 5 #[.slice a n cap, .int .i64 at', .int .u32 t] w fun e w' => e = .returned (.bool true) ∧ Below w.heap.size w w' := by
  obtain ⟨i0, hi, hz0, hz1, hz2⟩ := info_parts info5
  have hn := hr.1
  have hcap := hr.2.1
  have hm := hr.2.2.1
  unfold maxLen at hm
  rw [u8s_length] at hn
  have HN := Lib.hid hn
  have HR := Lib.hid hr
  have HB := Lib.hid hb
  have HI := Lib.hid hi
  have HZ0 := Lib.hid hz0
  have HZ1 := Lib.hid hz1
  have HZ2 : RowKit.Hid (i0.bytes = 1) := hz2
  have HUL : RowKit.Hid ((u8s l).length = n) := by rw [u8s_length]; exact hn
  clear hr hb hn hi hz0 hz1 hz2
  by_cases h6 : 600 < n ∨ n < 4 ∨ t = 0
  · by_cases h7 : 600 < n
    · go_enter Try.func5, Try.ntmps5
      go_wp2_with (go_at_call 12; refine (awake_any _).mono ?_; rintro e w' ⟨rfl, hb1⟩; have HB1 := Lib.hid hb1; clear hb1)
      go_ret
      exact ⟨rfl, HB1.out⟩
    by_cases h8 : n < 4
    · go_enter Try.func5, Try.ntmps5
      go_wp2_with (go_at_call 12; refine (awake_any _).mono ?_; rintro e w' ⟨rfl, hb1⟩; have HB1 := Lib.hid hb1; clear hb1)
      go_ret
      exact ⟨rfl, HB1.out⟩
    obtain rfl : t = 0 := by omega
    go_enter Try.func5, Try.ntmps5
    go_wp2_with (go_at_call 12; refine (awake_any _).mono ?_; rintro e w' ⟨rfl, hb1⟩; have HB1 := Lib.hid hb1; clear hb1)
    go_ret
    exact ⟨rfl, HB1.out⟩
  have h7 : ¬ 600 < n := by omega
  have h8 : ¬ n < 4 := by omega
  have h9 : ((t : Int) == 0) = false := by simp; omega
  have hb9 := lowI_bd at' ((n : Int) - 3) (by omega)
  obtain ⟨k, hk⟩ := Int.eq_ofNat_of_zero_le hb9.1
  have HK := Lib.hid hk
  have hkn : k + 4 ≤ n := by omega
  have ht0 : t ≠ 0 := by omega
  have HT0 := Lib.hid ht0
  have hd1 : decide (600 < (n : Int)) = false := by simp; omega
  have hd2 : decide ((n : Int) < 4) = false := by simp; omega
  clear ht0
  clear h6 hb9 hk
  go_enter Try.func5, Try.ntmps5
  go_wp2_with (first | (go_at_call 18; refine (low_any at' ((n : Int) - 3) _ (by omega) (by omega)).mono ?_; rintro e w' ⟨rfl, rfl⟩; rw [HK.out]) | (at_builtin; refine wpList_append_rd rfl (.const (.slice none 0 0)) (.tmp 28) 22 rfl w.heap.size 5 i0 (.int .u8 0) 1 1 Try.underlying22 HI.out HZ0.out HZ1.out HZ2.out rfl (by decide) none 0 0 [] rfl (World.ownsRow_nil _ _ _ _) a n cap (u8s l) rfl (by rw [HUL.out]; omega) HR.out.nil0 HR.out.src (u8s_one l) (by unfold maxLen; omega) (by omega) (Nat.le_refl _) ?_; intro ao1 cap1 w1 hown1 hg1; simp only [Nat.zero_add, List.nil_append] at hown1; have HO1 := Lib.hid hown1; have HBE1 := Lib.hid ((Below.refl _ _).grown hg1 (Nat.le_refl _) (by intro k hk; cases hk) : Below w.heap.size w w1); clear hown1 hg1))
  obtain ⟨g, rfl, hg⟩ := ownsRow_some HO1.out (by omega)
  obtain ⟨spare, hsl, hblk⟩ := ownsRow_blk HO1.out
  have HCAP : RowKit.Hid (n ≤ cap1 ∧ cap1 ≤ maxLen) := by have := ownsRow_rd HO1.out; exact ⟨this.2.1, this.2.2.1⟩
  have HBLK := Lib.hid hblk
  have HG := Lib.hid hg
  clear hblk hsl hg
  go_loopw [9] (fun i wr => ∃ j : Nat, j ≤ 4 ∧ i = .int .i64 j ∧ RowKit.Hid (Blk wr g 5 (u8s (fl l k t j) ++ spare)) ∧ RowKit.Hid (Below w.heap.size w wr)) (fun i _ => 4 - (intOf i).toNat)
  case atStart => exact ⟨0, by omega, rfl, HBLK.out, HBE1.out⟩
  case round =>
    obtain ⟨j, hj, rfl, HBL, HBE⟩ := hrel
    by_cases hlt : j < 4
    · have hlen : (u8s (fl l k t j)).length = n := by rw [u8s_length, fl_length, HN.out]
      have hy : (fl l k t j)[k + j]?.getD 0 < 256 := by
        by_cases hk : k + j < (fl l k t j).length
        · rw [List.getElem?_eq_getElem hk]; exact fl_lt _ _ _ _ HB.out _ (List.getElem_mem _)
        · rw [List.getElem?_eq_none (by omega)]; simp
      have hc : wr.cell? ⟨g, k + j, none⟩ = some (.int .u8 (((fl l k t j)[k + j]?.getD 0 : Nat) : Int)) := by
        rw [HBL.out.cell, List.getElem?_append_left (by omega), u8s_get _ _ (by rw [fl_length, HN.out]; omega), List.getElem?_eq_getElem (by rw [fl_length, HN.out]; omega)]
        rfl
      have hf := HBL.out.frozen (k + j)
      have HNX : RowKit.Hid (Blk (wr.setCell ⟨g, k + j, none⟩ (.int .u8 (((fl l k t j)[k + j]?.getD 0 ^^^ t / 2 ^ (8 * j) % 256 : Nat) : Int))) g 5 (u8s (fl l k t (j + 1)) ++ spare)) := by
        have := HBL.out.set (k + j) (.int .u8 (((fl l k t j)[k + j]?.getD 0 ^^^ t / 2 ^ (8 * j) % 256 : Nat) : Int))
        rw [List.set_append_left _ _ (by omega)] at this
        have e : (u8s (fl l k t j)).set (k + j) (.int .u8 (((fl l k t j)[k + j]?.getD 0 ^^^ t / 2 ^ (8 * j) % 256 : Nat) : Int)) = u8s (fl l k t (j + 1)) := by
          simp only [u8s, fl, List.map_set]
        rw [e] at this
        exact this
      have hx := bits_xor_u8 ((fl l k t j)[k + j]?.getD 0) (t / 2 ^ (8 * j) % 256) hy (by omega)
      generalize (fl l k t j)[k + j]?.getD 0 = y at *
      have HX : RowKit.Hid (bits .xor .u8 (y : Int) ((t : Int) / 2 ^ (8 * j) % 256) = ((y ^^^ t / 2 ^ (8 * j) % 256 : Nat) : Int)) := by
        have e : ((t : Int) / 2 ^ (8 * j) % 256) = ((t / 2 ^ (8 * j) % 256 : Nat) : Int) := by simp
        unfold RowKit.Hid; rw [e]; exact hx
      clear hx
      clear hlen
      go_wp2
      go_region
      go_wp2
      go_roundw
      case rel => exact ⟨j + 1, by omega, by go_num, by rw [HX.out]; exact HNX.out, (HBE.out.setCell HG.out _).drew⟩
      case measure => simp [intOf]; omega
    · obtain rfl : j = 4 := by omega
      have hne : (((addN 0 (fl l k t 4) : Nat) : Int) != ((addN 0 l : Nat) : Int)) = true := by
        have := turned_law l k t (by rw [HN.out]; exact hkn) ht HT0.out HB.out
        simp; omega
      have HRX := Lib.hid (HBL.out.rd n cap1 (u8s (fl l k t 4)) (by rw [u8s_length, fl_length, HN.out]) HCAP.out.1 HCAP.out.2 (fun i hi => List.getElem?_append_left (by rw [u8s_length, fl_length, HN.out]; exact hi)))
      have HRL := Lib.hid (HR.out.below HBE.out rfl)
      have HFB := Lib.hid (fl_lt l k t 4 HB.out)
      generalize fl l k t 4 = x4 at *
      go_wp2_with fail
      refine (of_any _ n cap1 x4 _ HFB.out HRX.out).mono ?_
      rintro e w' ⟨rfl, rfl⟩
      go_wp2_with fail
      refine (of_any _ n cap l _ HB.out HRL.out).mono ?_
      rintro e w' ⟨rfl, rfl⟩
      go_wp2_with fail
      refine (awake_any _).mono ?_
      rintro e w3 ⟨rfl, hb3⟩
      have HB3 := Lib.hid hb3
      clear hb3
      go_wp2_with fail
      go_ret
      exact ⟨rfl, HBE.out.trans (HB3.out.mono HBE.out.size)⟩
end Go.Proofs.Ytcjfiofnidnlaaa
