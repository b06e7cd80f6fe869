/- The walks of CodeBack and CodeParts, and the plain laws that they want. -/
import Derived.Test.YtcjfiofnidnlaaaCode7
namespace Go.Proofs.Ytcjfiofnidnlaaa
open Go.RowKit
set_option linter.unusedVariables false

theorem num_be (v k : Nat) : num (be v k) = v % 256 ^ k := by
  induction k generalizing v with
  | zero => simp [be, num, Nat.mod_one]
  | succ k ih => rw [be, num_snoc, ih, Nat.pow_succ, Nat.mul_comm (256 ^ k) 256, Nat.mod_mul]; omega
theorem u64_small (v : Nat) (h : v < 18446744073709551616) : u64 (v : Int) = v := by unfold u64; omega
theorem clamp_small (q : Nat) (h : q ≤ 8) : clampSize (q : Int) = q := by unfold clampSize; omega
section
variable (l : List Nat) (v q : Nat) (s : ByteArray) (hq1 : 1 ≤ q) (hq : q ≤ 7) (hv : v < 256 ^ q) (hs : s.size ≤ 1000)
theorem pow_le7 (q : Nat) (hq : q ≤ 7) : 256 ^ q ≤ 72057594037927936 := Nat.le_trans (Nat.pow_le_pow_right (by decide) hq) (by decide)
theorem back_put (hq : q ≤ 7) (hv : v < 256 ^ q) : putL l (v : Int) (q : Int) = l ++ be v q := by
  have := pow_le7 q hq
  unfold putL; rw [u64_small v (by omega), clamp_small q (by omega)]
theorem cut_small (hs : s.size ≤ 1000) : cutN s = s.size := by unfold cutN; omega
theorem back_x (hq : q ≤ 7) (hv : v < 256 ^ q) (hs : s.size ≤ 1000) : putTextL (putL l (v : Int) (q : Int)) s = l ++ be v q ++ (be s.size 2 ++ bytesN s) := by
  unfold putTextL
  rw [cut_small s hs, back_put l v q hq hv, List.take_of_length_le (by rw [bytesN_length]; exact Nat.le_refl _)]
  unfold putL
  rw [u64_small s.size (by omega), show clampSize 2 = 2 from rfl, List.append_assoc, List.append_assoc]
theorem back_len (hq : q ≤ 7) (hv : v < 256 ^ q) (hs : s.size ≤ 1000) : (putTextL (putL l (v : Int) (q : Int)) s).length = l.length + q + 2 + s.size := by
  rw [back_x l v q s hq hv hs]; simp [be_length, bytesN_length]; omega
theorem back_num (hq1 : 1 ≤ q) (hq : q ≤ 7) (hv : v < 256 ^ q) (hs : s.size ≤ 1000) : numOk (putTextL (putL l (v : Int) (q : Int)) s).length (l.length : Int) (q : Int) = true ∧ numV (putTextL (putL l (v : Int) (q : Int)) s) (l.length : Int) (q : Int) = v := by
  have h1 : numOk (putTextL (putL l (v : Int) (q : Int)) s).length (l.length : Int) (q : Int) = true := by
    unfold numOk; rw [back_len l v q s hq hv hs, decide_eq_true_iff]; omega
  refine ⟨h1, ?_⟩
  unfold numV; rw [if_pos h1]
  have h2 : numAt (putTextL (putL l (v : Int) (q : Int)) s) (l.length : Int) (q : Int) = v := by
    unfold numAt
    rw [back_x l v q s hq hv hs, Int.toNat_natCast, Int.toNat_natCast, List.append_assoc, List.drop_left, List.take_append_of_le_length (by rw [be_length]; exact Nat.le_refl _), List.take_of_length_le (by rw [be_length]; exact Nat.le_refl _), num_be, Nat.mod_eq_of_lt hv]
  rw [h2]
  have := pow_le7 q hq
  exact IntWalk.wrap64_in _ ⟨by omega, by omega⟩
theorem back_text (hq1 : 1 ≤ q) (hq : q ≤ 7) (hv : v < 256 ^ q) (hs : s.size ≤ 1000) : textOk (putTextL (putL l (v : Int) (q : Int)) s) ((l.length : Int) + q) = true ∧ textV (putTextL (putL l (v : Int) (q : Int)) s) ((l.length : Int) + q) = s ∧ textE (putTextL (putL l (v : Int) (q : Int)) s) ((l.length : Int) + q) = ((putTextL (putL l (v : Int) (q : Int)) s).length : Int) := by
  have hN : numAt (putTextL (putL l (v : Int) (q : Int)) s) ((l.length : Int) + q) 2 = s.size := by
    unfold numAt
    rw [back_x l v q s hq hv hs, show ((l.length : Int) + q).toNat = (l ++ be v q).length by simp [be_length]; omega, List.drop_left, show (2 : Int).toNat = 2 from rfl,
      List.take_append_of_le_length (by rw [be_length]; exact Nat.le_refl _), List.take_of_length_le (by rw [be_length]; exact Nat.le_refl _), num_be]
    omega
  have hL := back_len l v q s hq hv hs
  have h1 : textOk (putTextL (putL l (v : Int) (q : Int)) s) ((l.length : Int) + q) = true := by
    unfold textOk numOk
    rw [hN, hL]
    simp; omega
  refine ⟨h1, ?_, ?_⟩
  · unfold textV; rw [if_pos h1]
    unfold textAt
    rw [hN, back_x l v q s hq hv hs, show ((l.length : Int) + q).toNat + 2 = (l ++ be v q ++ be s.size 2).length by simp [be_length]; omega, ← List.append_assoc, List.drop_left,
      List.take_of_length_le (by rw [bytesN_length]; exact Nat.le_refl _), strN_bytesN]
  · unfold textE; rw [if_pos h1, hN, hL]; omega
end

theorem wrap_pow (q : Nat) (hq : q ≤ 7) : wrap64 (2 ^ (8 * q)) = ((256 ^ q : Nat) : Int) := by
  have h1 : (2 : Int) ^ (8 * q) = ((256 ^ q : Nat) : Int) := by rw [pow_256]; simp
  rw [h1]
  have := pow_le7 q hq
  generalize 256 ^ q = P at *
  exact IntWalk.wrap64_in _ ⟨by omega, by omega⟩

set_option maxHeartbeats 1200000 in
theorem back_walk (a : Option Addr) (n cap : Nat) (l : List Nat) (v size : Int) (s : ByteArray) (w : World) (hb : ∀ x ∈ l, x < 256) (hr : Rd w a n cap (u8s l))
    (hs9 : s.size ≤ 9223372036854775807) :
    Calls Try.prog 11 #[.slice a n cap, .int .i64 v, .int .i64 size, .string s] w fun e w' => e = .returned (.bool true) ∧ Below w.heap.size w w' := by
  have hn := hr.1
  rw [u8s_length] at hn
  have HN := Lib.hid hn
  have HR := Lib.hid hr
  have HB := Lib.hid hb
  clear hr hn hb
  by_cases h6 : 200 < n
  · go_enter Try.func11, Try.ntmps11
    go_wp2_with (go_at_call 19; refine (awake3_any _).mono ?_; rintro e w' ⟨rfl, hb1⟩; have HB1 := Lib.hid hb1; clear hb1)
    go_ret
    exact ⟨rfl, HB1.out⟩
  by_cases h7 : 1000 < s.size
  · go_enter Try.func11, Try.ntmps11
    go_wp2_with (go_at_call 19; refine (awake3_any _).mono ?_; rintro e w' ⟨rfl, hb1⟩; have HB1 := Lib.hid hb1; clear hb1)
    go_ret
    exact ⟨rfl, HB1.out⟩
  have hd1 : decide (200 < (n : Int)) = false := by simp; omega
  have hd2 : decide (1000 < (s.size : Int)) = false := by simp; omega
  obtain ⟨q, hq⟩ : ∃ q : Nat, (1 : Int) + lowI size 7 = q := by
    have := lowI_bd size 7 (by omega)
    exact ⟨(1 + lowI size 7).toNat, by omega⟩
  have hq7 : 1 ≤ q ∧ q ≤ 7 := by have := lowI_bd size 7 (by omega); omega
  have HW2 := Lib.hid (wrap_pow q (by omega))
  have hpp : 1 ≤ 256 ^ q := Nat.one_le_pow _ _ (by decide)
  have hpl := pow_le7 q (by omega)
  obtain ⟨P, hP⟩ : ∃ P, 256 ^ q = P := ⟨_, rfl⟩
  rw [hP] at HW2 hpp hpl
  obtain ⟨V, hV, hVl⟩ : ∃ V : Nat, lowI v (P : Int) = V ∧ V < P := by
    have := lowI_bd v (P : Int) (by omega)
    exact ⟨(lowI v (P : Int)).toNat, by omega, by omega⟩
  have HV := Lib.hid hV
  clear hV
  have HNUM := Lib.hid (back_num l V q s hq7.1 hq7.2 (by rw [hP]; exact hVl) (by omega))
  have HTXT := Lib.hid (back_text l V q s hq7.1 hq7.2 (by rw [hP]; exact hVl) (by omega))
  have HXL := Lib.hid (back_len l V q s hq7.2 (by rw [hP]; exact hVl) (by omega))
  have HPL : RowKit.Hid ((putL l (V : Int) (q : Int)).length = n + q) := by unfold RowKit.Hid; rw [back_put l V q hq7.2 (by rw [hP]; exact hVl), List.length_append, be_length, HN.out]
  have HP := Lib.hid hP
  clear hP
  go_enter Try.func11, Try.ntmps11
  go_wp2_with fail
  refine (low_any size 7 _ (by omega) (by omega)).mono ?_
  rintro e w' ⟨rfl, rfl⟩
  go_wp2_with fail
  rw [HW2.out]
  refine (low_any v _ _ (by omega) (by omega)).mono ?_
  rintro e w' ⟨rfl, rfl⟩
  rw [HV.out]
  go_wp2_with fail
  refine (put_any a n cap l (V : Int) (q : Int) _ HR.out (by omega) (by omega) (by omega)).mono ?_
  rintro e w2 ⟨ao, c, rfl, hown, hbel⟩
  have HX := Lib.hid hown
  have HB2 := Lib.hid hbel
  clear hown hbel
  go_wp2_with fail
  refine (puttext_any _ _ _ (putL l (V : Int) (q : Int)) s _ (ownsRow_rd HX.out) (by rw [u8s_length, HPL.out]; omega) (by omega)).mono ?_
  rintro e w3 ⟨ao3, c3, rfl, hown, hbel⟩
  have HXB : RowKit.Hid (∀ x ∈ putTextL (putL l (V : Int) (q : Int)) s, x < 256) := by
    intro x hx
    rcases List.mem_append.1 hx with h | h
    · exact putL_lt _ _ _ (putL_lt _ _ _ HB.out) x h
    · exact bytesN_lt s x (List.mem_of_mem_take h)
  rw [u8s_length, HXL.out] at hown ⊢
  have HRX := Lib.hid (ownsRow_rd hown)
  have HB3 := Lib.hid (HB2.out.trans (hbel.mono HB2.out.size))
  clear hown hbel
  have HNA := Lib.hid (num_all ao3 (l.length + q + 2 + s.size) c3 (putTextL (putL l (V : Int) (q : Int)) s) (n : Int) (q : Int) w3 HRX.out HXB.out (by have := HN.out; omega) (by omega) (by omega))
  have HTA := Lib.hid (text_all ao3 (l.length + q + 2 + s.size) c3 (putTextL (putL l (V : Int) (q : Int)) s) ((n : Int) + (q : Int)) w3 HRX.out HXB.out (by have := HN.out; omega) (by omega))
  have h1 := HNUM.out
  have h2 := HTXT.out
  rw [HN.out] at h1 h2
  rw [h1.1, h1.2] at HNA
  rw [h2.1, h2.2.1, h2.2.2, HXL.out] at HTA
  clear h1 h2 HRX HXB
  go_wp2_with fail
  refine HNA.out.mono ?_
  rintro e w' ⟨rfl, rfl⟩
  go_wp2_with fail
  refine HTA.out.mono ?_
  rintro e w' ⟨rfl, rfl⟩
  go_wp2_with fail
  refine (awake3_any _).mono ?_
  rintro e w11 ⟨rfl, hb3⟩
  have HB11 := Lib.hid (HB3.out.trans (hb3.mono HB3.out.size))
  clear hb3
  go_wp2_with fail
  go_ret
  exact ⟨rfl, HB11.out⟩
end Go.Proofs.Ytcjfiofnidnlaaa
