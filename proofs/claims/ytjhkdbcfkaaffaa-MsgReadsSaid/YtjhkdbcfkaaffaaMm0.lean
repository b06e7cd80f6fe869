/- msg's small questions: within, worker, place, item. -/
import Derived.Test.YtjhkdbcfkaaffaaPart2
import Derived.Test.YtjhkdbcfkaaffaaItems
namespace Go.Proofs.Ytjhkdbcfkaaffaa
open Go.RowKit
set_option linter.unusedVariables false

def ints (l : List Int) : List Value := l.map (Value.int .i64)
set_option maxRecDepth 100000 in
theorem ints_len (l : List Int) : (ints l).length = l.length := by simp [ints]
def inR (n : Int) : Bool := decide (0 ≤ n) && decide (n ≤ 2147483647)
def withinL (l : List Int) : Bool := l.all inR
def workerB (n : Int) : Bool := decide (1 ≤ n) && decide (n ≤ 5)
def placeB (s h : Int) : Bool := decide (0 ≤ s) && decide (s < 4) && decide (0 ≤ h) && decide (h < 6)
def itemB (x : KeyL) : Bool := decide (0 ≤ x.1) && decide (x.1 ≤ 4) && isWord x.2
set_option maxRecDepth 100000 in
theorem all_next {α : Type} {p : α → Bool} {l : List α} {k : Nat} {x : α} (h : l[k]? = some x) : (l.take (k + 1)).all p = ((l.take k).all p && p x) := by
  rw [List.take_add_one, h, List.all_append]
  simp
set_option maxRecDepth 100000 in
theorem all_no {α : Type} {p : α → Bool} {l : List α} {k : Nat} {x : α} (h : l[k]? = some x) (hp : p x = false) : l.all p = false := by
  rw [List.all_eq_false]
  exact ⟨x, List.mem_of_getElem? h, by simp [hp]⟩
set_option maxRecDepth 100000 in
set_option maxHeartbeats 1000000 in
theorem within_any (a : Option Addr) (n c : Nat) (l : List Int) (w : World) (h : Rd w a n c (ints l)) :
    Calls Try.prog 45 #[.slice a n c] w fun e w' => e = .returned (.bool (withinL l)) ∧ w = w' := by
  have hl : l.length = n := by rw [← h.1, ints_len]
  subst hl
  have hcap := h.2.1
  have hcm := h.2.2.1
  unfold maxLen at hcm
  have HR := Lib.hid h
  obtain ⟨R, hR⟩ : ∃ R, withinL l = R := ⟨_, rfl⟩
  rw [hR]
  have HRL := Lib.hid hR
  clear h hR
  go_enter Try.func45, Try.ntmps45
  go_wp2_with fail
  go_loop [7] (fun v => ∃ k : Nat, k ≤ l.length ∧ v = .int .i64 k ∧ RowKit.Hid ((l.take k).all inR = true)) (fun v => l.length - (intOf v).toNat)
  case atStart => exact ⟨0, by omega, rfl, by simp [RowKit.Hid]⟩
  case round =>
    obtain ⟨k, hk, rfl, HT⟩ := hrel
    by_cases hlt : k < l.length
    · obtain ⟨x, hx⟩ : ∃ x, l[k]? = some x := ⟨_, List.getElem?_eq_getElem hlt⟩
      obtain ⟨bb, ob, rfl, hbb, hc⟩ := HR.out.2.2.2.2 k hlt
      have cx : w.cell? ⟨bb, ob + k, none⟩ = some (.int .i64 x) := by rw [hc]; simp [ints, hx]
      have HN := Lib.hid (all_next (p := inR) hx)
      have HF := Lib.hid (fun hp => all_no (p := inR) hx hp)
      have hin : inR x = (decide (0 ≤ x) && decide (x ≤ 2147483647)) := rfl
      have HIN := Lib.hid hin
      have k1 : (0 : Int) ≤ (k : Int) := by omega
      have k2 : (k : Int) < (l.length : Int) := by omega
      clear hx hc hin
      by_cases h1 : x < 0
      · obtain rfl : R = false := by rw [← HRL.out]; exact HF.out (by rw [HIN.out, decide_eq_false (by omega)]; rfl)
        have d1 : decide (x < 0) = true := by simpa using h1
        go_wp2_with fail
        go_ret
        exact ⟨rfl, rfl⟩
      have d1 : decide (x < 0) = false := by simpa using h1
      by_cases h2 : 2147483647 < x
      · obtain rfl : R = false := by rw [← HRL.out]; exact HF.out (by rw [HIN.out, decide_eq_false (show ¬ x ≤ 2147483647 by omega)]; simp)
        have d2 : decide (2147483647 < x) = true := by simpa using h2
        go_wp2_with fail
        go_ret
        exact ⟨rfl, rfl⟩
      have d2 : decide (2147483647 < x) = false := by simpa using h2
      have HT2 := Lib.hid (show (l.take (k + 1)).all inR = true from by rw [HN.out, HT.out, HIN.out, decide_eq_true (by omega), decide_eq_true (by omega)]; rfl)
      go_wp2_with fail
      go_round
      case rel => exact ⟨k + 1, by omega, by go_num, HT2.out⟩
      case measure => simp [intOf]; omega
    · obtain rfl : k = l.length := by omega
      have ht := HT.out
      rw [List.take_length] at ht
      obtain rfl : R = true := by rw [← HRL.out]; exact ht
      go_wp2_with fail
      go_ret
      exact ⟨rfl, rfl⟩
set_option maxRecDepth 100000 in
theorem worker_any (n : Int) (w : World) : Calls Try.prog 44 #[.int .i64 n] w fun e w' => e = .returned (.bool (workerB n)) ∧ w = w' := by
  unfold workerB
  by_cases h1 : 1 ≤ n <;> by_cases h2 : n ≤ 5
  all_goals
    go_enter Try.func44, Try.ntmps44
    go_wp2_with fail
    go_ret
    exact ⟨by simp [h1, h2], rfl⟩
set_option maxRecDepth 100000 in
theorem place_any (s h : Int) (w : World) : Calls Try.prog 48 #[.int .i64 s, .int .i64 h] w fun e w' => e = .returned (.bool (placeB s h)) ∧ w = w' := by
  unfold placeB
  by_cases h1 : 0 ≤ s <;> by_cases h2 : s < 4 <;> by_cases h3 : 0 ≤ h <;> by_cases h4 : h < 6
  all_goals
    go_enter Try.func48, Try.ntmps48
    go_wp2_with fail
    go_ret
    exact ⟨by simp [h1, h2, h3, h4], rfl⟩
set_option maxRecDepth 100000 in
theorem mitem_any (x : KeyL) (w : World) (hs : x.2.size ≤ maxLen) : Calls Try.prog 66 #[.agg #[.int .i64 x.1, .string x.2]] w fun e w' => e = .returned (.bool (itemB x)) ∧ Below w.heap.size w w' := by
  obtain ⟨d, s⟩ := x
  have HB := Lib.hid ((Below.refl _ w).alloc (Nat.le_refl _) (.cells #[.int .i64 d, .string s] 27))
  have HK := Lib.hid (show Blk (w.alloc (.cells #[.int .i64 d, .string s] 27)) w.heap.size 27 [.int .i64 d, .string s] from heap_alloc_new w _)
  have HW := Lib.hid (fun V => word_any s V hs)
  obtain ⟨R, hR⟩ : ∃ R, itemB (d, s) = R := ⟨_, rfl⟩
  have HRL := Lib.hid (show (decide (0 ≤ d) && decide (d ≤ 4) && isWord s) = R from hR)
  show Calls Try.prog 66 #[.agg #[.int .i64 d, .string s]] w _
  rw [hR]
  clear hR hs
  generalize isWord s = b at *
  by_cases h1 : 0 ≤ d
  · by_cases h2 : d ≤ 4
    · obtain rfl : R = b := by rw [← HRL.out]; simp [h1, h2]
      go_enter Try.func66, Try.ntmps66
      go_wp2_with fail
      refine (HW.out _).mono ?_
      rintro e w1 ⟨rfl, hb⟩
      have HB2 := Lib.hid (HB.out.trans (hb.mono HB.out.size))
      clear hb
      go_wp2_with fail
      go_ret
      exact ⟨rfl, HB2.out⟩
    · obtain rfl : R = false := by rw [← HRL.out]; simp [h2]
      have d2 : decide (d ≤ 4) = false := by simpa using h2
      go_enter Try.func66, Try.ntmps66
      go_wp2_with fail
      go_ret
      exact ⟨rfl, HB.out⟩
  · obtain rfl : R = false := by rw [← HRL.out]; simp [h1]
    have d1 : decide (0 ≤ d) = false := by simpa using h1
    go_enter Try.func66, Try.ntmps66
    go_wp2_with fail
    go_ret
    exact ⟨rfl, HB.out⟩
end Go.Proofs.Ytjhkdbcfkaaffaa
