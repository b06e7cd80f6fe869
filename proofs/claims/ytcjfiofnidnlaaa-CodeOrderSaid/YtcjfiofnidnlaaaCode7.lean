/- The walks of CodeGets, CodeBack and CodeParts, and the plain laws that they want. -/
import Derived.Test.YtcjfiofnidnlaaaCode6
namespace Go.Proofs.Ytcjfiofnidnlaaa
open Go.RowKit
set_option linter.unusedVariables false

def numV (l : List Nat) (at' size : Int) : Int := if numOk l.length at' size then wrap64 (numAt l at' size : Nat) else 0
def textV (l : List Nat) (at' : Int) : ByteArray := if textOk l at' then strN (textAt l at') else ⟨#[]⟩
def textE (l : List Nat) (at' : Int) : Int := if textOk l at' then at' + 2 + numAt l at' 2 else 0
theorem num_all (a : Option Addr) (n cap : Nat) (l : List Nat) (at' size : Int) (w : World) (hr : Rd w a n cap (u8s l)) (hb : ∀ b ∈ l, b < 256) (hn9 : n ≤ 1000000000)
    (hv : -9223372036854775808 ≤ at' ∧ at' ≤ 9223372036854775807) (hs : -9223372036854775808 ≤ size ∧ size ≤ 9223372036854775807) :
    Calls Try.prog 26 #[.slice a n cap, .int .i64 at', .int .i64 size] w fun e w' => e = .returned (.tuple #[.int .i64 (numV l at' size), .bool (numOk l.length at' size)]) ∧ w = w' := by
  have hn := hr.1
  rw [u8s_length] at hn
  cases h : numOk l.length at' size with
  | true =>
    have e : numV l at' size = wrap64 (numAt l at' size : Nat) := by unfold numV; rw [if_pos h]
    rw [e]
    exact num_yes a n cap l at' size w hr hb hn9 (by rw [← hn]; exact h)
  | false =>
    have e : numV l at' size = 0 := by unfold numV; rw [if_neg (by rw [h]; simp)]
    rw [e]
    exact num_no a n cap at' size w hn9 (by rw [← hn]; exact h) hv hs
theorem refnum_all (a : Option Addr) (n cap : Nat) (l : List Nat) (at' size : Int) (w : World) (hr : Rd w a n cap (u8s l)) (hb : ∀ b ∈ l, b < 256) (hn9 : n ≤ 1000000000)
    (hv : -9223372036854775808 ≤ at' ∧ at' ≤ 9223372036854775807) (hs : -9223372036854775808 ≤ size ∧ size ≤ 9223372036854775807) :
    Calls Try.prog 27 #[.slice a n cap, .int .i64 at', .int .i64 size] w fun e w' => e = .returned (.tuple #[.int .i64 (numV l at' size), .bool (numOk l.length at' size)]) ∧ w = w' := by
  have hn := hr.1
  rw [u8s_length] at hn
  cases h : numOk l.length at' size with
  | true =>
    have e : numV l at' size = wrap64 (numAt l at' size : Nat) := by unfold numV; rw [if_pos h]
    rw [e]
    exact refnum_yes a n cap l at' size w hr hb hn9 (by rw [← hn]; exact h)
  | false =>
    have e : numV l at' size = 0 := by unfold numV; rw [if_neg (by rw [h]; simp)]
    rw [e]
    exact refnum_no a n cap at' size w hn9 (by rw [← hn]; exact h) hv hs
theorem text_all (a : Option Addr) (n cap : Nat) (l : List Nat) (at' : Int) (w : World) (hr : Rd w a n cap (u8s l)) (hb : ∀ b ∈ l, b < 256) (hn9 : n ≤ 1000000000)
    (hv : -9223372036854775808 ≤ at' ∧ at' ≤ 9223372036854775807) :
    Calls Try.prog 28 #[.slice a n cap, .int .i64 at'] w fun e w' => e = .returned (.tuple #[.string (textV l at'), .int .i64 (textE l at'), .bool (textOk l at')]) ∧ w = w' := by
  cases h : textOk l at' with
  | true =>
    have e : textV l at' = strN (textAt l at') := by unfold textV; rw [if_pos h]
    have e2 : textE l at' = at' + 2 + numAt l at' 2 := by unfold textE; rw [if_pos h]
    rw [e, e2]
    exact text_yes a n cap l at' w hr hb hn9 h
  | false =>
    have e : textV l at' = ⟨#[]⟩ := by unfold textV; rw [if_neg (by rw [h]; simp)]
    have e2 : textE l at' = 0 := by unfold textE; rw [if_neg (by rw [h]; simp)]
    rw [e, e2]
    exact text_no a n cap l at' w hr hb hn9 h hv
theorem reftext_all (a : Option Addr) (n cap : Nat) (l : List Nat) (at' : Int) (w : World) (hr : Rd w a n cap (u8s l)) (hb : ∀ b ∈ l, b < 256) (hn9 : n ≤ 1000000000)
    (hv : -9223372036854775808 ≤ at' ∧ at' ≤ 9223372036854775807) :
    Calls Try.prog 29 #[.slice a n cap, .int .i64 at'] w fun e w' => e = .returned (.tuple #[.string (textV l at'), .int .i64 (textE l at'), .bool (textOk l at')]) ∧ w = w' := by
  cases h : textOk l at' with
  | true =>
    have e : textV l at' = strN (textAt l at') := by unfold textV; rw [if_pos h]
    have e2 : textE l at' = at' + 2 + numAt l at' 2 := by unfold textE; rw [if_pos h]
    rw [e, e2]
    exact reftext_yes a n cap l at' w hr hb hn9 h
  | false =>
    have e : textV l at' = ⟨#[]⟩ := by unfold textV; rw [if_neg (by rw [h]; simp)]
    have e2 : textE l at' = 0 := by unfold textE; rw [if_neg (by rw [h]; simp)]
    rw [e, e2]
    exact reftext_no a n cap l at' w hr hb hn9 h hv
set_option maxHeartbeats 800000 in
theorem gets_walk (a : Option Addr) (n cap : Nat) (l : List Nat) (at' size : Int) (w : World) (hb : ∀ x ∈ l, x < 256) (hr : Rd w a n cap (u8s l))
    (hv : -9223372036854775808 ≤ at' ∧ at' ≤ 9223372036854775807) (hs : -9223372036854775808 ≤ size ∧ size ≤ 9223372036854775807) :
    Calls Try.prog 10 #[.slice a n cap, .int .i64 at', .int .i64 size] w fun e w' => e = .returned (.bool true) ∧ Below w.heap.size w w' := by
  have HR := Lib.hid hr
  have HB := Lib.hid hb
  clear hr hb
  by_cases h6 : 300 < n
  · go_enter Try.func10, Try.ntmps10
    go_wp2_with (go_at_call 19; refine (awake3_any _).mono ?_; rintro e w' ⟨rfl, hb1⟩; have HB1 := Lib.hid hb1; clear hb1)
    go_ret
    exact ⟨rfl, HB1.out⟩
  go_enter Try.func10, Try.ntmps10
  go_wp2_with fail
  refine (num_all a n cap l at' size _ HR.out HB.out (by omega) hv hs).mono ?_
  rintro e w' ⟨rfl, rfl⟩
  go_wp2_with fail
  refine (refnum_all a n cap l at' size _ HR.out HB.out (by omega) hv hs).mono ?_
  rintro e w' ⟨rfl, rfl⟩
  go_wp2_with fail
  refine (text_all a n cap l at' _ HR.out HB.out (by omega) hv).mono ?_
  rintro e w' ⟨rfl, rfl⟩
  go_wp2_with fail
  refine (reftext_all a n cap l at' _ HR.out HB.out (by omega) hv).mono ?_
  rintro e w' ⟨rfl, rfl⟩
  go_wp2_with fail
  refine (awake3_any _).mono ?_
  rintro e w3 ⟨rfl, hb3⟩
  have HB3 := Lib.hid hb3
  clear hb3
  go_wp2_with fail
  go_ret
  exact ⟨rfl, HB3.out⟩
end Go.Proofs.Ytcjfiofnidnlaaa
