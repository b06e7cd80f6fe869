/- The walk of CodeParts, and the plain law that it wants. -/
import Derived.Test.YtcjfiofnidnlaaaCode8
namespace Go.Proofs.Ytcjfiofnidnlaaa
open Go.RowKit
set_option linter.unusedVariables false

theorem be_mod (v k : Nat) : be (v % 256 ^ k) k = be v k := by
  induction k generalizing v with
  | zero => rfl
  | succ k ih =>
    rw [be, be]
    have e1 : v % 256 ^ (k + 1) / 256 = v / 256 % 256 ^ k := by
      rw [Nat.pow_succ, Nat.mul_comm, Nat.mod_mul_right_div_self]
    have e2 : v % 256 ^ (k + 1) % 256 = v % 256 := Nat.mod_mod_of_dvd _ ⟨256 ^ k, by rw [Nat.pow_succ, Nat.mul_comm]⟩
    rw [e1, ih, e2]
theorem be_split (v m : Nat) : ∀ k, be v (k + m) = be (v / 256 ^ m) k ++ be v m := by
  induction m generalizing v with
  | zero => intro k; simp [be]
  | succ m ih =>
    intro k
    rw [← Nat.add_assoc, be, ih, be, Nat.div_div_eq_div_mul, ← Nat.pow_succ', List.append_assoc]
theorem up_law (n : Int) (q m : Nat) (hm : m ≤ q) (hq : q ≤ 8) : be (u64 (n / 256 ^ m)) (q - m) = be (u64 n / 256 ^ m) (q - m) := by
  rw [← be_mod (u64 (n / 256 ^ m)), ← be_mod (u64 n / 256 ^ m)]
  congr 1
  have hv : ((u64 n : Nat) : Int) = n % 256 ^ 8 := by unfold u64; omega
  have hu : ((u64 (n / 256 ^ m) : Nat) : Int) = (n / 256 ^ m) % 256 ^ 8 := by unfold u64; omega
  have hsplit : n = ((u64 n : Nat) : Int) + 256 ^ m * (256 ^ (8 - m) * (n / 256 ^ 8)) := by
    rw [← Int.mul_assoc, ← Int.pow_add, show m + (8 - m) = 8 by omega, hv]
    exact (Int.emod_add_mul_ediv n (256 ^ 8)).symm
  have hpos : (0 : Int) < 256 ^ m := Int.pow_pos (by decide)
  have h1 : n / 256 ^ m = ((u64 n : Nat) : Int) / 256 ^ m + 256 ^ (8 - m) * (n / 256 ^ 8) := by
    conv => lhs; rw [hsplit]
    rw [Int.add_mul_ediv_left _ _ (by omega)]
  have hd8 : (256 : Int) ^ (q - m) ∣ 256 ^ 8 := ⟨256 ^ (8 - (q - m)), by rw [← Int.pow_add, show q - m + (8 - (q - m)) = 8 by omega]⟩
  have hd : (256 : Int) ^ (q - m) ∣ 256 ^ (8 - m) := ⟨256 ^ (8 - m - (q - m)), by rw [← Int.pow_add, show q - m + (8 - m - (q - m)) = 8 - m by omega]⟩
  have h2 : (((u64 (n / 256 ^ m) % 256 ^ (q - m) : Nat)) : Int) = ((u64 n / 256 ^ m % 256 ^ (q - m) : Nat) : Int) := by
    have ep : ((256 ^ (q - m) : Nat) : Int) = (256 : Int) ^ (q - m) := by rw [Int.natCast_pow]; rfl
    have em : ((256 ^ m : Nat) : Int) = (256 : Int) ^ m := by rw [Int.natCast_pow]; rfl
    rw [Int.natCast_emod, Int.natCast_emod, hu, Int.natCast_ediv, ep, em, Int.emod_emod_of_dvd _ hd8, h1]
    obtain ⟨k, hk⟩ := hd
    rw [hk, Int.mul_assoc, Int.add_mul_emod_self_left]
  exact Int.ofNat.inj h2
theorem parts_law (l : List Nat) (n : Int) (q m : Nat) (hm : m ≤ q) (hq : q ≤ 8) : putL (putL l (n / 256 ^ m) ((q : Int) - m)) n (m : Int) = putL l n (q : Int) := by
  unfold putL
  rw [show ((q : Int) - m) = ((q - m : Nat) : Int) by omega, clamp_small _ (by omega), clamp_small _ (by omega), clamp_small _ hq, up_law n q m hm hq, List.append_assoc, ← be_split, show q - m + m = q by omega]
theorem up_bd (v : Int) (m : Nat) (hv : -9223372036854775808 ≤ v ∧ v ≤ 9223372036854775807) : -9223372036854775808 ≤ v / 256 ^ m ∧ v / 256 ^ m ≤ 9223372036854775807 := by
  induction m with
  | zero => simpa using hv
  | succ m ih =>
    rw [Int.pow_succ, ← Int.ediv_ediv_of_nonneg (Int.pow_nonneg (by decide))]
    generalize v / 256 ^ m = x at *
    omega

set_option maxHeartbeats 1200000 in
theorem parts_walk (a : Option Addr) (n cap : Nat) (l : List Nat) (v size low : Int) (w : World) (hb : ∀ x ∈ l, x < 256) (hr : Rd w a n cap (u8s l))
    (hv : -9223372036854775808 ≤ v ∧ v ≤ 9223372036854775807) :
    Calls Try.prog 8 #[.slice a n cap, .int .i64 v, .int .i64 size, .int .i64 low] w fun e w' => e = .returned (.bool true) ∧ Below w.heap.size w w' := by
  have hn := hr.1
  rw [u8s_length] at hn
  have HN := Lib.hid hn
  have HR := Lib.hid hr
  have HB := Lib.hid hb
  clear hr hn hb
  by_cases h6 : 100 < n
  · go_enter Try.func8, Try.ntmps8
    go_wp2_with (go_at_call 19; refine (awake3_any _).mono ?_; rintro e w' ⟨rfl, hb1⟩; have HB1 := Lib.hid hb1; clear hb1)
    go_ret
    exact ⟨rfl, HB1.out⟩
  obtain ⟨q, hq⟩ : ∃ q : Nat, (1 : Int) + lowI size 8 = q := by
    have := lowI_bd size 8 (by omega)
    exact ⟨(1 + lowI size 8).toNat, by omega⟩
  have hq7 : 1 ≤ q ∧ q ≤ 8 := by have := lowI_bd size 8 (by omega); omega
  obtain ⟨m, hm⟩ : ∃ m : Nat, lowI low ((q : Int) + 1) = m := by
    have := lowI_bd low ((q : Int) + 1) (by omega)
    exact ⟨(lowI low ((q : Int) + 1)).toNat, by omega⟩
  have hmq : m ≤ q := by have := lowI_bd low ((q : Int) + 1) (by omega); omega
  have HM := Lib.hid hm
  clear hm
  have HLAW := Lib.hid (parts_law l v q m hmq hq7.2)
  have HXL : RowKit.Hid ((putL l v (q : Int)).length = n + q) := by unfold RowKit.Hid putL; rw [List.length_append, be_length, clamp_small q hq7.2, HN.out]
  have HUL : RowKit.Hid ((putL l (v / 256 ^ m) ((q : Int) - m)).length ≤ 1000) := by unfold RowKit.Hid putL; rw [List.length_append, be_length, HN.out]; unfold clampSize; omega
  have HUB := Lib.hid (up_bd v m hv)
  go_enter Try.func8, Try.ntmps8
  go_wp2_with fail
  refine (low_any size 8 _ (by omega) (by omega)).mono ?_
  rintro e w' ⟨rfl, rfl⟩
  go_wp2_with fail
  refine (low_any low ((q : Int) + 1) _ (by omega) (by omega)).mono ?_
  rintro e w' ⟨rfl, rfl⟩
  rw [HM.out]
  go_wp2_with fail
  refine (put_any a n cap l v (q : Int) _ HR.out (by omega) hv (by omega)).mono ?_
  rintro e w2 ⟨ao, c, rfl, hown, hbel⟩
  rw [u8s_length, HXL.out] at hown ⊢
  have HX := Lib.hid hown
  have HB2 := Lib.hid hbel
  clear hown hbel
  go_wp2_with fail
  go_loop [10, 11] (fun u i => ∃ k : Nat, k ≤ m ∧ i = .int .i64 k ∧ u = .int .i64 (v / 256 ^ k)) (fun _ i => m - (intOf i).toNat)
  case atStart => exact ⟨0, by omega, rfl, by simp⟩
  case round =>
    obtain ⟨k, hk, rfl, rfl⟩ := hrel
    by_cases hlt : k < m
    · have hub := up_bd v k hv
      have hst : RowKit.Hid (v / 256 ^ (k + 1) = v / 256 ^ k / 256) := by
        unfold RowKit.Hid
        rw [Int.pow_succ, ← Int.ediv_ediv_of_nonneg (Int.pow_nonneg (by decide))]
      generalize v / 256 ^ k = x at *
      go_wp2
      go_round
      case rel => exact ⟨k + 1, by omega, by go_num, by rw [hst.out]⟩
      case measure => simp [intOf]; omega
    · obtain rfl : k = m := by omega
      go_wp2_with fail
      refine (put_any a n cap l (v / 256 ^ k) ((q : Int) - k) _ (HR.out.below HB2.out rfl) (by omega) HUB.out (by omega)).mono ?_
      rintro e w3 ⟨ao3, c3, rfl, hown, hbel⟩
      have HU := Lib.hid (ownsRow_rd hown)
      have HE3 := Lib.hid hbel
      have HX3 := Lib.hid (ownsRow_below HX.out hbel)
      have HB3 := Lib.hid (HB2.out.trans (hbel.mono HB2.out.size))
      clear hown hbel
      go_wp2_with fail
      refine (put_any _ _ _ _ v (k : Int) _ HU.out (by rw [u8s_length]; have := HUL.out; omega) hv (by omega)).mono ?_
      rintro e w4 ⟨ao4, c4, rfl, hown, hbel⟩
      rw [HLAW.out, u8s_length, HXL.out] at hown ⊢
      have HY4 := Lib.hid (ownsRow_rd hown)
      have HX4 := Lib.hid (ownsRow_below HX3.out hbel)
      have HB4 := Lib.hid (HB3.out.trans (hbel.mono HB3.out.size))
      clear hown hbel
      go_wp2_with fail
      refine (same_any _ _ _ _ _ _ (putL l v (q : Int)) (putL l v (q : Int)) _ (ownsRow_rd HX4.out) HY4.out).mono ?_
      rintro e w5 ⟨rfl, hd⟩
      rw [eqL_self]
      have HX5 := Lib.hid (ownsRow_below HX4.out (hd.below _))
      have HB5 := Lib.hid (HB4.out.trans (hd.below _))
      clear hd
      obtain ⟨g, rfl, hg⟩ := ownsRow_some HX.out (by omega)
      have hcc := (ownsRow_rd HX5.out).2.1
      have hcm := (ownsRow_rd HX5.out).2.2.1
      unfold maxLen at hcm
      have HCUT : RowKit.Hid (Rd w5 (some ⟨g, 0, none⟩) n c (u8s l)) := by
        have h9 := (ownsRow_rd HX5.out).cut' 0 n (by omega) (some ⟨g, 0, none⟩) (fun _ => rfl) (by simp) c rfl
        have e9 : ((putL l v (q : Int)).drop 0).take n = l := by
          unfold putL; rw [List.drop_zero, List.take_append_of_le_length (by rw [HN.out]; exact Nat.le_refl _), List.take_of_length_le (by rw [HN.out]; exact Nat.le_refl _)]
        rw [e9] at h9; exact h9
      go_wp2_with fail
      refine (same_any _ n c _ n cap l l _ HCUT.out (HR.out.below HB5.out rfl)).mono ?_
      rintro e w6 ⟨rfl, hd⟩
      rw [eqL_self]
      have HB6 := Lib.hid (HB5.out.trans (hd.below _))
      clear hd
      go_wp2_with fail
      refine (awake3_any _).mono ?_
      rintro e w11 ⟨rfl, hb3⟩
      have HB11 := Lib.hid (HB6.out.trans (hb3.mono HB6.out.size))
      clear hb3
      go_wp2_with fail
      go_ret
      exact ⟨rfl, HB11.out⟩
end Go.Proofs.Ytcjfiofnidnlaaa
