/- The walks of the check sum's functions: turn, Add, Of. -/
import Derived.Test.YtjhkdbcfkaaffaaRows
import Derived.Test.YtjhkdbcfkaaffaaKit
import Derived.Test.YtjhkdbcfkaaffaaSum0
namespace Go.Proofs.Ytjhkdbcfkaaffaa
open Go.RowKit
set_option linter.unusedVariables false


set_option maxRecDepth 100000 in
set_option maxHeartbeats 400000 in
theorem turn_any (c b : Nat) (w : World) (hc : c < 4294967296) (hb : b < 256) :
    Calls Try.prog 79 #[.int .u32 c, .int .u8 b] w fun e w' => e = .returned (.int .u32 (turnN c b : Nat)) ∧ w = w' := by
  have hx : bits .xor .u32 (c : Int) (b : Int) = ((c ^^^ b : Nat) : Int) := bits_xor_u32 c b hc (by omega)
  have hl : c ^^^ b < 4294967296 := xor_lt hc (by omega)
  have hfin : RowKit.Hid (turnN c b = steps 8 (c ^^^ b)) := rfl
  go_enter Try.func79, Try.ntmps79
  go_wp2
  go_loop [0, 5, 10] (fun x o i => ∃ k : Nat, k ≤ 8 ∧ i = .int .i64 k ∧ x = .int .u32 (steps k (c ^^^ b) : Nat)) (fun _ _ i => 8 - (intOf i).toNat)
  case atStart => exact ⟨0, by omega, rfl, rfl⟩
  case round =>
    obtain ⟨k, hk, rfl, rfl⟩ := hrel
    by_cases hlt : k < 8
    · have hs := steps_lt k hl
      have hst : RowKit.Hid (steps (k + 1) (c ^^^ b) = step (steps k (c ^^^ b))) := rfl
      obtain ⟨x, hX⟩ : ∃ x, x = steps k (c ^^^ b) := ⟨_, rfl⟩
      rw [← hX] at hs hst ⊢
      clear hX
      have h1 := bits_and1_u32 x hs
      have h2 : bits .xor .u32 ((x : Int) / 2) 3988292384 = ((x / 2 ^^^ poly : Nat) : Int) := bits_xor_u32 (x / 2) poly (by omega) (by decide)
      by_cases hb1 : x % 2 = 1
      · have h3 : ((((x % 2 : Nat)) : Int) == 1) = true := by rw [hb1]; rfl
        have hst' : RowKit.Hid (step x = (x / 2) ^^^ poly) := if_pos hb1
        clear hb1 hx
        go_wp2
        go_round
        case rel => exact ⟨k + 1, by omega, by go_num, by rw [hst.out, hst'.out]⟩
        case measure => simp [intOf]; omega
      · have h3 : ((((x % 2 : Nat)) : Int) == 1) = false := by simp; omega
        have hst' : RowKit.Hid (step x = (x / 2)) := if_neg hb1
        clear hb1 hx h2
        go_wp2
        go_round
        case rel => exact ⟨k + 1, by omega, by go_num, by rw [hst.out, hst'.out]; go_num⟩
        case measure => simp [intOf]; omega
    · obtain rfl : k = 8 := by omega
      go_wp2
      go_ret
      exact ⟨by rw [hfin.out]; rfl, rfl⟩


set_option maxRecDepth 100000 in
set_option maxHeartbeats 400000 in
theorem add_any (c : Nat) (a : Option Addr) (n cap : Nat) (l : List Nat) (w : World) (hc : c < 4294967296) (hb : ∀ b ∈ l, b < 256) (hr : Rd w a n cap (u8s l)) :
    Calls Try.prog 61 #[.int .u32 c, .slice a n cap] w fun e w' => e = .returned (.int .u32 (addN c l : Nat)) ∧ w = w' := by
  obtain ⟨hn, hcap, hm, hz, hcell⟩ := hr
  rw [u8s_length] at hn
  subst hn
  unfold maxLen at hm
  have HC := Lib.hid hcell; clear hcell
  have HZ := Lib.hid hz; clear hz
  have HB := Lib.hid hb; clear hb
  have hinv := bits_not_u32 c hc
  have hsg : IntKind.u32.signed = false := rfl
  have hic := inv_lt c
  go_enter Try.func61, Try.ntmps61
  go_wp2
  go_loop [0, 6, 11] (fun x o i => ∃ k : Nat, k ≤ l.length ∧ i = .int .i64 k ∧ x = .int .u32 (addL (inv c) (l.take k) : Nat)) (fun _ _ i => l.length - (intOf i).toNat)
  case atStart => exact ⟨0, by omega, rfl, by simp [addL]⟩
  case round =>
    obtain ⟨k, hk, rfl, rfl⟩ := hrel
    have hlt' : addL (inv c) (l.take k) < 4294967296 := addL_lt _ hic (fun x hx => HB.out x (List.mem_of_mem_take hx))
    by_cases hlt : k < l.length
    · obtain ⟨b, off, rfl, hbl, hc1⟩ := HC.out k hlt
      rw [u8s_get l k hlt] at hc1
      have h256 := getD_lt HB.out k hlt
      have hst : RowKit.Hid (addL (inv c) (l.take (k + 1)) = turnN (addL (inv c) (l.take k)) l[k]) := by rw [take_snoc l k hlt, addL_snoc]; exact rfl
      generalize hX : addL (inv c) (l.take k) = x at *
      clear hX
      go_wp2_with (go_at_call 79; refine (turn_any x l[k] _ hlt' h256).mono ?_; rintro e w' ⟨rfl, rfl⟩)
      go_round
      case rel => exact ⟨k + 1, by omega, by go_num, by rw [hst.out]⟩
      case measure => simp [intOf]; omega
    · obtain rfl : k = l.length := by omega
      rw [List.take_length] at hlt' ⊢
      have hx := bits_not_u32 _ hlt'
      have hfin : RowKit.Hid (addN c l = inv (addL (inv c) l)) := rfl
      go_wp2
      go_ret
      exact ⟨by rw [hfin.out]; rfl, rfl⟩

set_option maxRecDepth 100000 in
theorem of_any (a : Option Addr) (n cap : Nat) (l : List Nat) (w : World) (hb : ∀ b ∈ l, b < 256) (hr : Rd w a n cap (u8s l)) :
    Calls Try.prog 40 #[.slice a n cap] w fun e w' => e = .returned (.int .u32 (addN 0 l : Nat)) ∧ w = w' := by
  have HB := Lib.hid hb; clear hb
  have HR := Lib.hid hr; clear hr
  go_enter Try.func40, Try.ntmps40
  go_wp2_with (go_at_call 61; refine (add_any 0 a n cap l _ (by decide) HB.out HR.out).mono ?_; rintro e w' ⟨rfl, rfl⟩)
  go_ret
  exact ⟨rfl, rfl⟩
end Go.Proofs.Ytjhkdbcfkaaffaa
