/- The walk of the document's own check sum, and what it comes to. -/
import Derived.Test.YtjhkdbcfkaaffaaSum1
namespace Go.Proofs.Ytjhkdbcfkaaffaa
open Go.RowKit
set_option linter.unusedVariables false

/-- one bit of the document's way -/
def rstep (c b k : Nat) : Nat := if (c % 2 != (b / 2 ^ k) % 2) = true then (c / 2) ^^^ poly else c / 2
def rsteps (b : Nat) : Nat → Nat → Nat
  | 0, c => c
  | k + 1, c => rstep (rsteps b k c) b k
set_option maxRecDepth 100000 in
theorem xor_half (a b : Nat) : (a ^^^ b) / 2 = a / 2 ^^^ b / 2 := by
  apply Nat.eq_of_testBit_eq; intro i; simp [Nat.testBit_div_two, Nat.testBit_xor]
set_option maxRecDepth 100000 in
theorem xor_mod2 (a b : Nat) : ((a ^^^ b) % 2 = 1) ↔ (a % 2 ≠ b % 2) := by
  have h := Nat.xor_mod_two_pow (a := a) (b := b) (n := 1)
  simp at h
  rw [h]
  rcases Nat.mod_two_eq_zero_or_one a with e | e <;> rcases Nat.mod_two_eq_zero_or_one b with f | f <;> simp [e, f]
set_option maxRecDepth 100000 in
theorem rsteps_eq (b c : Nat) : ∀ k, steps k (c ^^^ b) = rsteps b k c ^^^ (b / 2 ^ k) := by
  intro k
  induction k with
  | zero => simp [steps, rsteps]
  | succ k ih =>
    simp only [steps, rsteps, ih]
    unfold step rstep
    have e : b / 2 ^ (k + 1) = b / 2 ^ k / 2 := by rw [Nat.pow_succ, Nat.div_div_eq_div_mul]
    rw [xor_half, e]
    by_cases h : rsteps b k c % 2 ≠ (b / 2 ^ k) % 2
    · rw [if_pos ((xor_mod2 _ _).2 h), if_pos (by simpa using h)]
      rw [Nat.xor_assoc, Nat.xor_comm (b / 2 ^ k / 2), ← Nat.xor_assoc]
    · rw [if_neg (fun hh => h ((xor_mod2 _ _).1 hh)), if_neg (by simpa using h)]
set_option maxRecDepth 100000 in
theorem rsteps_turn (b c : Nat) (hb : b < 256) : rsteps b 8 c = turnN c b := by
  have h := rsteps_eq b c 8
  have : b / 2 ^ 8 = 0 := by omega
  rw [this] at h; simpa [turnN] using h.symm
set_option maxRecDepth 100000 in
theorem rsteps_lt (b c k : Nat) (hb : b < 256) (hc : c < 4294967296) : rsteps b k c < 4294967296 := by
  have h := rsteps_eq b c k
  have h1 : b / 2 ^ k < 4294967296 := Nat.lt_of_le_of_lt (Nat.div_le_self _ _) (by omega)
  have : rsteps b k c = steps k (c ^^^ b) ^^^ (b / 2 ^ k) := by rw [h]; rw [Nat.xor_assoc, Nat.xor_self, Nat.xor_zero]
  rw [this]; exact xor_lt (steps_lt k (xor_lt hc (by omega))) h1

set_option maxRecDepth 100000 in
theorem test_eq (z y q : Nat) : ((z : Int) % 2 != ((y : Int) / 2 ^ q).tmod 2) = (z % 2 != (y / 2 ^ q) % 2) := by
  have e1 : ((y : Int) / 2 ^ q) = ((y / 2 ^ q : Nat) : Int) := by simp
  rw [e1, Int.tmod_eq_emod_of_nonneg (Int.natCast_nonneg _)]
  generalize y / 2 ^ q = u
  rw [Bool.eq_iff_iff]; simp only [bne_iff_ne, ne_eq]; omega

set_option maxRecDepth 100000 in
set_option maxHeartbeats 600000 in
theorem refof_any (a : Option Addr) (n cap : Nat) (l : List Nat) (w : World) (hb : ∀ b ∈ l, b < 256) (hr : Rd w a n cap (u8s l)) :
    Calls Try.prog 65 #[.slice a n cap] w fun e w' => e = .returned (.int .u32 (addN 0 l : Nat)) ∧ w = w' := by
  obtain ⟨hn, hcap, hm, hz, hcell⟩ := hr
  rw [u8s_length] at hn
  subst hn
  unfold maxLen at hm
  have HC := Lib.hid hcell; clear hcell
  have HZ := Lib.hid hz; clear hz
  have HB := Lib.hid hb; clear hb
  go_enter Try.func65, Try.ntmps65
  go_wp2
  go_loop [3, 4, 5, 6] (fun x i _ _ => ∃ k : Nat, k ≤ l.length ∧ i = .int .i64 k ∧ x = .int .u32 (addL 4294967295 (l.take k) : Nat)) (fun _ i _ _ => l.length - (intOf i).toNat)
  case atStart => exact ⟨0, by omega, rfl, by simp [addL]⟩
  case round =>
    obtain ⟨k, hk, rfl, rfl⟩ := hrel
    have hlt' : addL 4294967295 (l.take k) < 4294967296 := addL_lt _ (by decide) (fun x hx => HB.out x (List.mem_of_mem_take hx))
    by_cases hlt : k < l.length
    · obtain ⟨b, off, rfl, hbl, hc1⟩ := HC.out k hlt
      rw [u8s_get l k hlt] at hc1
      have h256 := getD_lt HB.out k hlt
      have hst : RowKit.Hid (addL 4294967295 (l.take (k + 1)) = turnN (addL 4294967295 (l.take k)) l[k]) := by rw [take_snoc l k hlt, addL_snoc]; exact rfl
      generalize hX : addL 4294967295 (l.take k) = x at *
      clear hX
      generalize l[k] = y at *
      go_wp2
      go_loop [3, 5, 6] (fun z j _ => ∃ q : Nat, q ≤ 8 ∧ j = .int .i64 q ∧ z = .int .u32 (rsteps y q x : Nat)) (fun _ j _ => 8 - (intOf j).toNat)
      case atStart => exact ⟨0, by omega, rfl, by simp [rsteps]⟩
      case round =>
        obtain ⟨q, hq, rfl, rfl⟩ := hrel
        have hrl := rsteps_lt y x q h256 hlt'
        by_cases hq8 : q < 8
        · have hst2 : RowKit.Hid (rsteps y (q + 1) x = rstep (rsteps y q x) y q) := rfl
          generalize hZ : rsteps y q x = z at *
          clear hZ
          have ht := test_eq z y q
          have h2 : bits .xor .u32 ((z : Int) / 2) 3988292384 = ((z / 2 ^^^ poly : Nat) : Int) := bits_xor_u32 (z / 2) poly (by omega) (by decide)
          by_cases hb1 : (z % 2 != (y / 2 ^ q) % 2) = true
          · have hst' : RowKit.Hid (rstep z y q = (z / 2) ^^^ poly) := if_pos hb1
            go_wp2
            go_round
            case rel => exact ⟨q + 1, by omega, by go_num, by rw [hst2.out, hst'.out]⟩
            case measure => simp [intOf]; omega
          · have hst' : RowKit.Hid (rstep z y q = (z / 2)) := if_neg hb1
            have hb1 : (z % 2 != (y / 2 ^ q) % 2) = false := by simpa using hb1
            clear h2
            go_wp2
            go_round
            case rel => exact ⟨q + 1, by omega, by go_num, by rw [hst2.out, hst'.out]; go_num⟩
            case measure => simp [intOf]; omega
        · obtain rfl : q = 8 := by omega
          have ht8 : RowKit.Hid (rsteps y 8 x = turnN x y) := rsteps_turn y x h256
          go_wp2
          go_round
          case rel => exact ⟨k + 1, by omega, by go_num, by rw [hst.out, ht8.out]⟩
          case measure => simp [intOf]; omega
    · obtain rfl : k = l.length := by omega
      rw [List.take_length] at hlt' ⊢
      have hfin : RowKit.Hid (addN 0 l = 4294967295 - (addL 4294967295 l)) := rfl
      go_wp2
      go_ret
      exact ⟨by rw [hfin.out]; exact ret_int (by omega), rfl⟩
end Go.Proofs.Ytjhkdbcfkaaffaa
