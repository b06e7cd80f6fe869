/- The walks of SumJoins and SumSteps. -/
import Derived.Test.YtcjfiofnidnlaaaSum3
import Derived.Test.YtcjfiofnidnlaaaApp
namespace Go.Proofs.Ytcjfiofnidnlaaa
open Go.RowKit
set_option linter.unusedVariables false

theorem addN_lt (c : Nat) (l : List Nat) : addN c l < 4294967296 := inv_lt _

set_option maxHeartbeats 600000 in
theorem joins_walk (a : Option Addr) (n cap : Nat) (b : Option Addr) (m bcap : Nat) (l r : List Nat) (w : World) (hb : ∀ x ∈ l, x < 256) (hb2 : ∀ x ∈ r, x < 256) (hr : Rd w a n cap (u8s l)) (hr2 : Rd w b m bcap (u8s r)) :
    Calls Try.prog 4 #[.slice a n cap, .slice b m bcap] w fun e w' => e = .returned (.bool true) ∧ Below w.heap.size w w' := by
  obtain ⟨i0, hi, hz0, hz1, hz2⟩ := info_parts info5
  have hn := hr.1
  have hcap := hr.2.1
  have hm := hr.2.2.1
  have hn2 := hr2.1
  have hcap2 := hr2.2.1
  have hm2 := hr2.2.2.1
  unfold maxLen at hm hm2
  have HN := Lib.hid hn
  have HN2 := Lib.hid hn2
  have HR := Lib.hid hr
  have HB := Lib.hid hb
  have HR2 := Lib.hid hr2
  have HB2 := Lib.hid hb2
  have HBJ : RowKit.Hid (∀ x ∈ l ++ r, x < 256) := by
    intro x hx; rcases List.mem_append.1 hx with h | h
    · exact hb x h
    · exact hb2 x h
  have HI := Lib.hid hi
  have HZ0 := Lib.hid hz0
  have HZ1 := Lib.hid hz1
  have HZ2 : RowKit.Hid (i0.bytes = 1) := hz2
  have hj := Lib.hid (addN_append (c := 0) l r hb)
  have hlt1 := addN_lt 0 l
  clear hn hr hb hn2 hr2 hb2 hi hz0 hz1 hz2
  by_cases h6 : 600 < n
  · go_enter Try.func4, Try.ntmps4
    go_wp2_with (go_at_call 12; refine (awake_any _).mono ?_; rintro e w' ⟨rfl, hb1⟩; have HB1 := Lib.hid hb1; clear hb1)
    go_ret
    exact ⟨rfl, HB1.out⟩
  by_cases h7 : 600 < m
  · go_enter Try.func4, Try.ntmps4
    go_wp2_with (go_at_call 12; refine (awake_any _).mono ?_; rintro e w' ⟨rfl, hb1⟩; have HB1 := Lib.hid hb1; clear hb1)
    go_ret
    exact ⟨rfl, HB1.out⟩
  go_enter Try.func4, Try.ntmps4
  go_wp2_with fail
  go_wp2_with (first | (go_at_call 14; refine (of_any a n cap l _ HB.out HR.out).mono ?_; rintro e w' ⟨rfl, rfl⟩))
  refine (add_any (addN 0 l) b m bcap r _ hlt1 HB2.out HR2.out).mono ?_
  rintro e w' ⟨rfl, rfl⟩
  go_wp2_with (first | (at_builtin; refine wpList_append_rd rfl (.const (.slice none 0 0)) (.tmp 18) 22 rfl w.heap.size 5 i0 (.int .u8 0) 1 1 Try.underlying22 HI.out HZ0.out HZ1.out HZ2.out rfl (by decide) none 0 0 [] rfl (World.ownsRow_nil _ _ _ _) a n cap (u8s l) rfl (by rw [HN.out]; omega) HR.out.nil0 HR.out.src (u8s_one l) (by unfold maxLen; omega) (by omega) (Nat.le_refl _) ?_; intro ao1 cap1 w1 hown1 hg1; simp only [Nat.zero_add, List.nil_append] at hown1; have HO1 := Lib.hid hown1; have HG1 := Lib.hid hg1; have HBE1 := Lib.hid ((Below.refl _ _).grown hg1 (Nat.le_refl _) (by intro k hk; cases hk) : Below w.heap.size w w1); have HRW1 := Lib.hid (HR2.out.below HBE1.out rfl); clear hown1 hg1) | (at_builtin; refine wpList_append_rd rfl (.tmp 19) (.tmp 20) 22 rfl w.heap.size 5 i0 (.int .u8 0) 1 1 Try.underlying22 HI.out HZ0.out HZ1.out HZ2.out rfl (by decide) ao1 n cap1 (u8s l) rfl HO1.out b m bcap (u8s r) rfl (by rw [HN2.out]; omega) HRW1.out.nil0 HRW1.out.src (u8s_one r) (by unfold maxLen; omega) (by omega) HBE1.out.size ?_; intro ao2 cap2 w2 hown2 hg2; rw [← u8s_append] at hown2; have HO2 := Lib.hid hown2; have HBE2 := Lib.hid (HBE1.out.grown hg2 HBE1.out.size (fun k hk => (HO1.out.lt k hk).1)); clear hown2 hg2) | (go_at_call 14; refine (of_any ao2 (n + m) cap2 (l ++ r) _ HBJ.out (ownsRow_rd HO2.out)).mono ?_; rintro e w' ⟨rfl, rfl⟩; rw [← hj.out]))
  refine (add_any 0 b m bcap r _ (by decide) HB2.out (HR2.out.below HBE2.out rfl)).mono ?_
  rintro e w' ⟨rfl, rfl⟩
  go_wp2_with fail
  refine (of_any b m bcap r _ HB2.out (HR2.out.below HBE2.out rfl)).mono ?_
  rintro e w' ⟨rfl, rfl⟩
  go_wp2_with fail
  refine (awake_any _).mono ?_
  rintro e w3 ⟨rfl, hb3⟩
  have HB3 := Lib.hid hb3
  clear hb3
  go_wp2_with fail
  go_ret
  exact ⟨rfl, HBE2.out.trans (HB3.out.mono HBE2.out.size)⟩

theorem addN_snoc (c : Nat) (l : List Nat) (x : Nat) (hc : c < 4294967296) (hl : ∀ y ∈ l, y < 256) : addN (addN c l) [x] = addN c (l ++ [x]) := addN_append l [x] hl

set_option maxHeartbeats 600000 in
theorem steps_walk (a : Option Addr) (n cap : Nat) (l : List Nat) (w : World) (hb : ∀ x ∈ l, x < 256) (hr : Rd w a n cap (u8s l)) :
    Calls Try.prog 6 #[.slice a n cap] w fun e w' => e = .returned (.bool true) ∧ Below w.heap.size w w' := by
  have hn := hr.1
  have hcap := hr.2.1
  have hm := hr.2.2.1
  unfold maxLen at hm
  rw [u8s_length] at hn
  subst hn
  have HR := Lib.hid hr
  have HB := Lib.hid hb
  clear hr hb
  by_cases h6 : 300 < l.length
  · go_enter Try.func6, Try.ntmps6
    go_wp2_with (go_at_call 12; refine (awake_any _).mono ?_; rintro e w' ⟨rfl, hb1⟩; have HB1 := Lib.hid hb1; clear hb1)
    go_ret
    exact ⟨rfl, HB1.out⟩
  have h7 : l.length ≤ 300 := by omega
  clear h6
  go_enter Try.func6, Try.ntmps6
  go_wp2
  go_loop [2, 3, 4] (fun u x i => ∃ k : Nat, k ≤ l.length ∧ i = .int .i64 k ∧ x = .int .u32 (addN 0 (l.take k) : Nat) ∧ u = .bool false) (fun _ _ i => l.length - (intOf i).toNat)
  case atStart => exact ⟨0, by omega, rfl, by simp [nil_sum], rfl⟩
  case round =>
    obtain ⟨k, hk, rfl, rfl, rfl⟩ := hrel
    have hlt' := addN_lt 0 (l.take k)
    have htk : ∀ x ∈ l.take k, x < 256 := fun x hx => HB.out x (List.mem_of_mem_take hx)
    have HTK := Lib.hid htk
    by_cases hlt : k < l.length
    · obtain ⟨b, off, rfl, hbl, hc1⟩ := HR.out.2.2.2.2 k hlt
      have h256 := getD_lt HB.out k hlt
      have hst : RowKit.Hid (addN 0 (l.take (k + 1)) = addN (addN 0 (l.take k)) [l[k]]) := by rw [take_snoc l k hlt, addN_snoc _ _ _ (by decide) htk]; exact rfl
      have hrk := HR.out.cut k (k + 1) (by omega) (by omega) (some ⟨b, off + k, none⟩) (fun _ => rfl) (by simp)
      have e1 : ((u8s l).drop k).take (k + 1 - k) = u8s [l[k]] := by
        rw [show k + 1 - k = 1 from by omega, List.drop_eq_getElem_cons (by rw [u8s_length]; exact hlt)]
        simp [u8s]
      rw [e1, show k + 1 - k = 1 from by omega] at hrk
      have HRK := Lib.hid hrk
      have hrf := HR.out.cut 0 (k + 1) (by omega) (by omega) (some ⟨b, off, none⟩) (fun _ => rfl) (by simp)
      have e2 : ((u8s l).drop 0).take (k + 1 - 0) = u8s (l.take (k + 1)) := by simp [u8s, List.map_take]
      rw [e2] at hrf
      have HRF : RowKit.Hid (Rd w (some ⟨b, off, none⟩) (k + 1) cap (u8s (l.take (k + 1)))) := hrf
      have htk1 : RowKit.Hid (∀ x ∈ l.take (k + 1), x < 256) := fun x hx => HB.out x (List.mem_of_mem_take hx)
      have h1 : RowKit.Hid (∀ x ∈ [l[k]], x < 256) := by intro x hx; simp at hx; subst hx; exact h256
      clear hrk e1 hrf e2 htk hc1
      go_wp2_with fail
      refine (add_any _ _ 1 (cap - k) [l[k]] _ hlt' h1.out HRK.out).mono ?_
      rintro e w' ⟨rfl, rfl⟩
      rw [← hst.out]
      clear hst
      go_wp2_with fail
      refine (of_any _ (k + 1) cap (l.take (k + 1)) _ htk1.out HRF.out).mono ?_
      rintro e w' ⟨rfl, rfl⟩
      go_wp2_with fail
      go_round
      case rel => exact ⟨k + 1, by omega, by go_num, rfl, rfl⟩
      case measure => simp [intOf]; omega
    · obtain rfl : k = l.length := by omega
      rw [List.take_length] at hlt' ⊢
      go_wp2_with fail
      refine (of_any _ l.length cap l _ HB.out HR.out).mono ?_
      rintro e w' ⟨rfl, rfl⟩
      go_wp2_with fail
      refine (awake_any _).mono ?_
      rintro e w3 ⟨rfl, hb3⟩
      have HB3 := Lib.hid hb3
      clear hb3
      go_wp2_with fail
      go_ret
      exact ⟨rfl, HB3.out⟩
end Go.Proofs.Ytcjfiofnidnlaaa
