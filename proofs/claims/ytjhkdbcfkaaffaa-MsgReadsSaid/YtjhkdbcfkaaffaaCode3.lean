/- The walks of code.Num and of the document's Num. -/
import Derived.Test.YtjhkdbcfkaaffaaCode2
namespace Go.Proofs.Ytjhkdbcfkaaffaa
open Go.RowKit
set_option linter.unusedVariables false

def numOk (n : Nat) (at' size : Int) : Bool := decide (1 ≤ size ∧ size ≤ 8 ∧ 0 ≤ at' ∧ at' ≤ n ∧ size ≤ n - at')
def numAt (l : List Nat) (at' size : Int) : Nat := num ((l.drop at'.toNat).take size.toNat)
set_option maxRecDepth 100000 in
theorem num_snoc (l : List Nat) (b : Nat) : num (l ++ [b]) = num l * 256 + b := by simp [num]
set_option maxRecDepth 100000 in
theorem num_lt' (l : List Nat) : ∀ v, (∀ x ∈ l, x < 256) → l.foldl (fun v b => v * 256 + b) v < (v + 1) * 256 ^ l.length := by
  induction l with
  | nil => intro v _; simp
  | cons b r ih =>
    intro v h
    have h1 := ih (v * 256 + b) (fun x hx => h x (by simp [hx]))
    have h2 := h b (by simp)
    rw [List.foldl_cons, List.length_cons, Nat.pow_succ]
    refine Nat.lt_of_lt_of_le h1 ?_
    rw [Nat.mul_comm (256 ^ r.length) 256, ← Nat.mul_assoc]
    exact Nat.mul_le_mul_right _ (by omega)
set_option maxRecDepth 100000 in
theorem num_lt (l : List Nat) (h : ∀ x ∈ l, x < 256) : num l < 256 ^ l.length := by simpa [num] using num_lt' l 0 h
set_option maxRecDepth 100000 in
theorem bits_or_u64 (a b : Nat) (ha : a < 72057594037927936) (hb : b < 256) : bits .or .u64 ((a : Int) * 256) (b : Int) = ((a * 256 + b : Nat) : Int) := by
  have e : ((a : Int) * 256) = ((a * 256 : Nat) : Int) := by simp
  have h1 : (BitVec.ofInt 64 ((a * 256 : Nat) : Int)).toNat = a * 256 := by
    rw [BitVec.ofInt_natCast, BitVec.toNat_ofNat]; exact Nat.mod_eq_of_lt (by omega)
  have h2 : (BitVec.ofInt 64 (b : Int)).toNat = b := by
    rw [BitVec.ofInt_natCast, BitVec.toNat_ofNat]; exact Nat.mod_eq_of_lt (by omega)
  rw [e]
  show IntKind.u64.wrap ((BitVec.ofInt 64 ((a * 256 : Nat) : Int) ||| BitVec.ofInt 64 (b : Int)).toNat : Int) = _
  rw [BitVec.toNat_or, h1, h2, wrap_u64]
  have : a * 256 ||| b = a * 256 + b := by
    have := Nat.two_pow_add_eq_or_of_lt (i := 8) (b := b) (by omega) a
    rw [show a * 256 = 2 ^ 8 * a by omega]; exact this.symm
  rw [this]; omega

set_option maxRecDepth 100000 in
set_option maxHeartbeats 800000 in
theorem num_no (a : Option Addr) (n cap : Nat) (at' size : Int) (w : World) (hn9 : n ≤ 1000000000) (h : numOk n at' size = false)
    (hv : -9223372036854775808 ≤ at' ∧ at' ≤ 9223372036854775807) (hs : -9223372036854775808 ≤ size ∧ size ≤ 9223372036854775807) :
    Calls Try.prog 54 #[.slice a n cap, .int .i64 at', .int .i64 size] w fun e w' => e = .returned (.tuple #[.int .i64 0, .bool false]) ∧ w = w' := by
  have h' : ¬ (1 ≤ size ∧ size ≤ 8 ∧ 0 ≤ at' ∧ at' ≤ n ∧ size ≤ n - at') := by simpa [numOk] using h
  clear h
  by_cases h1 : size < 1
  · clear h'; go_enter Try.func54, Try.ntmps54
    go_wp2
    go_ret2
    exact ⟨rfl, rfl⟩
  by_cases h2 : 8 < size
  · clear h'; go_enter Try.func54, Try.ntmps54
    go_wp2
    go_ret2
    exact ⟨rfl, rfl⟩
  by_cases h3 : at' < 0
  · clear h'; go_enter Try.func54, Try.ntmps54
    go_wp2
    go_ret2
    exact ⟨rfl, rfl⟩
  by_cases h4 : (n : Int) < at'
  · clear h'; go_enter Try.func54, Try.ntmps54
    go_wp2
    go_ret2
    exact ⟨rfl, rfl⟩
  have h5 : (n : Int) - at' < size := by omega
  clear h'
  go_enter Try.func54, Try.ntmps54
  go_wp2
  go_ret2
  exact ⟨rfl, rfl⟩

set_option maxRecDepth 100000 in
set_option maxHeartbeats 800000 in
theorem num_yes (a : Option Addr) (n cap : Nat) (l : List Nat) (at' size : Int) (w : World) (hr : Rd w a n cap (u8s l)) (hb : ∀ b ∈ l, b < 256) (hn9 : n ≤ 1000000000) (h : numOk n at' size = true) :
    Calls Try.prog 54 #[.slice a n cap, .int .i64 at', .int .i64 size] w fun e w' => e = .returned (.tuple #[.int .i64 (wrap64 (numAt l at' size : Nat)), .bool true]) ∧ w = w' := by
  have h' : 1 ≤ size ∧ size ≤ 8 ∧ 0 ≤ at' ∧ at' ≤ n ∧ size ≤ n - at' := by simpa [numOk] using h
  obtain ⟨g1, g2, g3, g4, g5⟩ := h'
  clear h
  obtain ⟨at', rfl⟩ := Int.eq_ofNat_of_zero_le g3
  obtain ⟨size, rfl⟩ := Int.eq_ofNat_of_zero_le (show 0 ≤ size by omega)
  have hn := hr.1
  rw [u8s_length] at hn
  subst hn
  have HC := Lib.hid hr.2.2.2.2
  have HB := Lib.hid hb
  clear hr hb
  obtain ⟨m, hm⟩ : ∃ m, m = (l.drop at').take size := ⟨_, rfl⟩
  have hml : m.length = size := by rw [hm]; simp; omega
  have HM := Lib.hid hm
  have HML := Lib.hid hml
  have hmb : ∀ b ∈ m, b < 256 := by intro b hb; rw [hm] at hb; exact HB.out b (List.mem_of_mem_drop (List.mem_of_mem_take hb))
  have HMB := Lib.hid hmb
  have hfin : RowKit.Hid (numAt l at' size = num m) := by rw [hm]; exact rfl
  clear hm hml hmb
  go_enter Try.func54, Try.ntmps54
  go_wp2
  go_loop [8, 9, 35] (fun x _ i => ∃ k : Nat, k ≤ size ∧ i = .int .i64 k ∧ x = .int .u64 (num (m.take k) : Nat)) (fun _ _ i => size - (intOf i).toNat)
  case atStart => exact ⟨0, by omega, rfl, by simp [num]⟩
  case round =>
    obtain ⟨k, hk, rfl, rfl⟩ := hrel
    by_cases hlt : k < size
    · obtain ⟨b, off, rfl, hbl, hc1⟩ := HC.out (at' + k) (by omega)
      have hkm : k < m.length := by rw [HML.out]; exact hlt
      have hmk : l[at' + k]? = some m[k] := by
        rw [← List.getElem?_eq_getElem hkm, HM.out, List.getElem?_take, if_pos hlt, List.getElem?_drop]
      have hget : (u8s l)[at' + k]? = some (.int .u8 ((m[k] : Nat) : Int)) := by simp [u8s, hmk]
      rw [hget] at hc1
      have h256 := getD_lt HMB.out k hkm
      have hst : RowKit.Hid (num (m.take (k + 1)) = num (m.take k) * 256 + m[k]) := by rw [take_snoc m k hkm, num_snoc]; exact rfl
      have hxl : num (m.take k) < 72057594037927936 := by
        have h1 := num_lt (m.take k) (fun x hx => HMB.out x (List.mem_of_mem_take hx))
        have h2 : (m.take k).length ≤ 7 := by simp; omega
        have := Nat.pow_le_pow_right (show 0 < 256 by decide) h2
        omega
      have hor := bits_or_u64 (num (m.take k)) m[k] hxl h256
      generalize num (m.take k) = x at *
      generalize m[k] = y at *
      clear hget hmk hkm
      go_wp2
      go_round
      case rel => exact ⟨k + 1, by omega, by go_num, by rw [hst.out]; go_num⟩
      case measure => simp [intOf]; omega
    · obtain rfl : k = size := by omega
      rw [List.take_of_length_le (by rw [HML.out]; exact Nat.le_refl _)]
      go_wp2
      go_ret2
      exact ⟨by rw [hfin.out]; rfl, rfl⟩
set_option maxRecDepth 100000 in
set_option maxHeartbeats 800000 in
theorem refnum_no (a : Option Addr) (n cap : Nat) (at' size : Int) (w : World) (hn9 : n ≤ 1000000000) (h : numOk n at' size = false)
    (hv : -9223372036854775808 ≤ at' ∧ at' ≤ 9223372036854775807) (hs : -9223372036854775808 ≤ size ∧ size ≤ 9223372036854775807) :
    Calls Try.prog 56 #[.slice a n cap, .int .i64 at', .int .i64 size] w fun e w' => e = .returned (.tuple #[.int .i64 0, .bool false]) ∧ w = w' := by
  have h' : ¬ (1 ≤ size ∧ size ≤ 8 ∧ 0 ≤ at' ∧ at' ≤ n ∧ size ≤ n - at') := by simpa [numOk] using h
  clear h
  by_cases h1 : size < 1
  · clear h'; go_enter Try.func56, Try.ntmps56
    go_wp2
    go_ret2
    exact ⟨rfl, rfl⟩
  by_cases h2 : 8 < size
  · clear h'; go_enter Try.func56, Try.ntmps56
    go_wp2
    go_ret2
    exact ⟨rfl, rfl⟩
  by_cases h3 : at' < 0
  · clear h'; go_enter Try.func56, Try.ntmps56
    go_wp2
    go_ret2
    exact ⟨rfl, rfl⟩
  by_cases h4 : (n : Int) < at'
  · clear h'; go_enter Try.func56, Try.ntmps56
    go_wp2
    go_ret2
    exact ⟨rfl, rfl⟩
  have h5 : (n : Int) - at' < size := by omega
  clear h'
  go_enter Try.func56, Try.ntmps56
  go_wp2
  go_ret2
  exact ⟨rfl, rfl⟩

set_option maxRecDepth 100000 in
set_option maxHeartbeats 800000 in
theorem refnum_yes (a : Option Addr) (n cap : Nat) (l : List Nat) (at' size : Int) (w : World) (hr : Rd w a n cap (u8s l)) (hb : ∀ b ∈ l, b < 256) (hn9 : n ≤ 1000000000) (h : numOk n at' size = true) :
    Calls Try.prog 56 #[.slice a n cap, .int .i64 at', .int .i64 size] w fun e w' => e = .returned (.tuple #[.int .i64 (wrap64 (numAt l at' size : Nat)), .bool true]) ∧ w = w' := by
  have h' : 1 ≤ size ∧ size ≤ 8 ∧ 0 ≤ at' ∧ at' ≤ n ∧ size ≤ n - at' := by simpa [numOk] using h
  obtain ⟨g1, g2, g3, g4, g5⟩ := h'
  clear h
  obtain ⟨at', rfl⟩ := Int.eq_ofNat_of_zero_le g3
  obtain ⟨size, rfl⟩ := Int.eq_ofNat_of_zero_le (show 0 ≤ size by omega)
  have hn := hr.1
  rw [u8s_length] at hn
  subst hn
  have HC := Lib.hid hr.2.2.2.2
  have HB := Lib.hid hb
  clear hr hb
  obtain ⟨m, hm⟩ : ∃ m, m = (l.drop at').take size := ⟨_, rfl⟩
  have hml : m.length = size := by rw [hm]; simp; omega
  have HM := Lib.hid hm
  have HML := Lib.hid hml
  have hmb : ∀ b ∈ m, b < 256 := by intro b hb; rw [hm] at hb; exact HB.out b (List.mem_of_mem_drop (List.mem_of_mem_take hb))
  have HMB := Lib.hid hmb
  have hfin : RowKit.Hid (numAt l at' size = num m) := by rw [hm]; exact rfl
  clear hm hml hmb
  go_enter Try.func56, Try.ntmps56
  go_wp2
  go_loop [8, 9] (fun x i => ∃ k : Nat, k ≤ size ∧ i = .int .i64 k ∧ x = .int .u64 (num (m.take k) : Nat)) (fun _ i => size - (intOf i).toNat)
  case atStart => exact ⟨0, by omega, rfl, by simp [num]⟩
  case round =>
    obtain ⟨k, hk, rfl, rfl⟩ := hrel
    by_cases hlt : k < size
    · obtain ⟨b, off, rfl, hbl, hc1⟩ := HC.out (at' + k) (by omega)
      have hkm : k < m.length := by rw [HML.out]; exact hlt
      have hmk : l[at' + k]? = some m[k] := by
        rw [← List.getElem?_eq_getElem hkm, HM.out, List.getElem?_take, if_pos hlt, List.getElem?_drop]
      have hget : (u8s l)[at' + k]? = some (.int .u8 ((m[k] : Nat) : Int)) := by simp [u8s, hmk]
      rw [hget] at hc1
      have h256 := getD_lt HMB.out k hkm
      have hst : RowKit.Hid (num (m.take (k + 1)) = num (m.take k) * 256 + m[k]) := by rw [take_snoc m k hkm, num_snoc]; exact rfl
      have hxl : num (m.take k) < 72057594037927936 := by
        have h1 := num_lt (m.take k) (fun x hx => HMB.out x (List.mem_of_mem_take hx))
        have h2 : (m.take k).length ≤ 7 := by simp; omega
        have := Nat.pow_le_pow_right (show 0 < 256 by decide) h2
        omega
      have hor := bits_or_u64 (num (m.take k)) m[k] hxl h256
      generalize num (m.take k) = x at *
      generalize m[k] = y at *
      clear hget hmk hkm
      go_wp2
      go_round
      case rel => exact ⟨k + 1, by omega, by go_num, by rw [hst.out]; go_num⟩
      case measure => simp [intOf]; omega
    · obtain rfl : k = size := by omega
      rw [List.take_of_length_le (by rw [HML.out]; exact Nat.le_refl _)]
      go_wp2
      go_ret2
      exact ⟨by rw [hfin.out]; rfl, rfl⟩
end Go.Proofs.Ytjhkdbcfkaaffaa
