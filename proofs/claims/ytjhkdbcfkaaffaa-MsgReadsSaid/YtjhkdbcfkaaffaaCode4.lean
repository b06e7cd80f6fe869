/- The walks of code.Text and of the document's Text. -/
import Derived.Test.YtjhkdbcfkaaffaaCode3

namespace Go.Proofs.Ytjhkdbcfkaaffaa
open Go.RowKit
set_option linter.unusedVariables false

def textOk (l : List Nat) (at' : Int) : Bool := numOk l.length at' 2 && decide ((numAt l at' 2 : Int) ≤ l.length - at' - 2)
def textAt (l : List Nat) (at' : Int) : List Nat := (l.drop (at'.toNat + 2)).take (numAt l at' 2)
set_option maxRecDepth 100000 in
theorem numAt2_lt (l : List Nat) (hb : ∀ b ∈ l, b < 256) (at' : Int) : numAt l at' 2 < 65536 := by
  have h := num_lt ((l.drop at'.toNat).take 2) (fun x hx => hb x (List.mem_of_mem_drop (List.mem_of_mem_take hx)))
  have h2 : ((l.drop at'.toNat).take 2).length ≤ 2 := by simp; omega
  have h3 := Nat.pow_le_pow_right (show 0 < 256 by decide) h2
  unfold numAt
  show num ((l.drop at'.toNat).take 2) < 65536
  omega
set_option maxRecDepth 100000 in
theorem textAt_lt (l : List Nat) (hb : ∀ b ∈ l, b < 256) (at' : Int) : ∀ x ∈ textAt l at', x < 256 := fun x hx => hb x (List.mem_of_mem_drop (List.mem_of_mem_take hx))

set_option maxRecDepth 100000 in
set_option maxHeartbeats 800000 in
theorem text_yes (a : Option Addr) (n cap : Nat) (l : List Nat) (at' : Int) (w : World) (hr : Rd w a n cap (u8s l)) (hb : ∀ b ∈ l, b < 256) (hn9 : n ≤ 1000000000) (h : textOk l at' = true) :
    Calls Try.prog 88 #[.slice a n cap, .int .i64 at'] w fun e w' => e = .returned (.tuple #[.string (strN (textAt l at')), .int .i64 (at' + 2 + numAt l at' 2), .bool true]) ∧ w = w' := by
  have hn := hr.1
  rw [u8s_length] at hn
  subst hn
  simp only [textOk, Bool.and_eq_true, decide_eq_true_eq] at h
  obtain ⟨g1, g2⟩ := h
  have h' : 1 ≤ (2 : Int) ∧ (2 : Int) ≤ 8 ∧ 0 ≤ at' ∧ at' ≤ l.length ∧ 2 ≤ l.length - at' := by simpa [numOk] using g1
  obtain ⟨_, _, g3, g4, g5⟩ := h'
  have hN := numAt2_lt l hb at'
  obtain ⟨at', rfl⟩ := Int.eq_ofNat_of_zero_le g3
  have HTX : RowKit.Hid (textAt l at' = (l.drop (at' + 2)).take (numAt l at' 2)) := rfl
  have HTL := Lib.hid (textAt_lt l hb at')
  have HR := Lib.hid hr
  have HB := Lib.hid hb
  have G1 := Lib.hid g1
  have hw : wrap64 ((numAt l at' 2 : Nat) : Int) = ((numAt l at' 2 : Nat) : Int) := IntWalk.wrap64_in _ ⟨by omega, by omega⟩
  have HW := Lib.hid hw
  have hcap := hr.2.1
  have hm := hr.2.2.1
  unfold maxLen at hm
  have HA : RowKit.Hid (∃ b off, a = some ⟨b, off, none⟩) := by
    obtain ⟨b, off, e, _⟩ := hr.2.2.2.2 0 (by omega)
    exact ⟨b, off, e⟩
  clear hr hb g1 hw
  obtain ⟨b, off, rfl⟩ := HA.out
  have HN := Lib.hid (num_yes (some ⟨b, off, none⟩) l.length cap l at' 2 w HR.out HB.out hn9 G1.out)
  generalize numAt l at' 2 = N at *
  go_enter Try.func88, Try.ntmps88
  go_wp2_with fail
  refine HN.out.mono ?_
  rintro e w' ⟨rfl, rfl⟩
  rw [HW.out]
  go_wp2_with (refine wpList_conv_str rfl _ 39 9 5 rfl Try.underlying39 Try.underlying5 Try.underlying9 _ _ _ (textAt l at') rfl ?_ HTL.out ?_)
  · rw [HTX.out]; exact HR.out.cut' (at' + 2) N (by omega) _ (fun h => by omega) (by simp) _ (by omega)
  · rw [HTX.out]; exact HR.out.cut' (at' + 2) N (by omega) _ (fun _ => rfl) (by simp) _ rfl
  · go_ret3
    exact ⟨rfl, rfl⟩
  · go_ret3
    exact ⟨rfl, rfl⟩

set_option maxRecDepth 100000 in
set_option maxHeartbeats 800000 in
theorem text_no (a : Option Addr) (n cap : Nat) (l : List Nat) (at' : Int) (w : World) (hr : Rd w a n cap (u8s l)) (hb : ∀ b ∈ l, b < 256) (hn9 : n ≤ 1000000000) (h : textOk l at' = false)
    (hv : -9223372036854775808 ≤ at' ∧ at' ≤ 9223372036854775807) :
    Calls Try.prog 88 #[.slice a n cap, .int .i64 at'] w fun e w' => e = .returned (.tuple #[.string ⟨#[]⟩, .int .i64 0, .bool false]) ∧ w = w' := by
  have hn := hr.1
  rw [u8s_length] at hn
  subst hn
  cases hok : numOk l.length at' 2 with
  | false =>
    have HN := Lib.hid (num_no a l.length cap at' 2 w hn9 hok hv (by omega))
    clear h hok hr
    go_enter Try.func88, Try.ntmps88
    go_wp2_with fail
    refine HN.out.mono ?_
    rintro e w' ⟨rfl, rfl⟩
    go_wp2_with fail
    go_ret3
    exact ⟨rfl, rfl⟩
  | true =>
    have h2 : ¬ ((numAt l at' 2 : Int) ≤ l.length - at' - 2) := by
      simp only [textOk, hok, Bool.true_and, decide_eq_false_iff_not] at h; exact h
    have h' : 1 ≤ (2 : Int) ∧ (2 : Int) ≤ 8 ∧ 0 ≤ at' ∧ at' ≤ l.length ∧ 2 ≤ l.length - at' := by simpa [numOk] using hok
    obtain ⟨_, _, g3, g4, g5⟩ := h'
    have hN := numAt2_lt l hb at'
    have HN := Lib.hid (num_yes a l.length cap l at' 2 w hr hb hn9 hok)
    have hw : wrap64 ((numAt l at' 2 : Nat) : Int) = ((numAt l at' 2 : Nat) : Int) := IntWalk.wrap64_in _ ⟨by omega, by omega⟩
    have HW := Lib.hid hw
    clear h hok hr hb hw
    generalize numAt l at' 2 = N at *
    go_enter Try.func88, Try.ntmps88
    go_wp2_with fail
    refine HN.out.mono ?_
    rintro e w' ⟨rfl, rfl⟩
    rw [HW.out]
    go_wp2_with fail
    go_ret3
    exact ⟨rfl, rfl⟩
set_option maxRecDepth 100000 in
set_option maxHeartbeats 800000 in
theorem reftext_yes (a : Option Addr) (n cap : Nat) (l : List Nat) (at' : Int) (w : World) (hr : Rd w a n cap (u8s l)) (hb : ∀ b ∈ l, b < 256) (hn9 : n ≤ 1000000000) (h : textOk l at' = true) :
    Calls Try.prog 89 #[.slice a n cap, .int .i64 at'] w fun e w' => e = .returned (.tuple #[.string (strN (textAt l at')), .int .i64 (at' + 2 + numAt l at' 2), .bool true]) ∧ w = w' := by
  have hn := hr.1
  rw [u8s_length] at hn
  subst hn
  simp only [textOk, Bool.and_eq_true, decide_eq_true_eq] at h
  obtain ⟨g1, g2⟩ := h
  have h' : 1 ≤ (2 : Int) ∧ (2 : Int) ≤ 8 ∧ 0 ≤ at' ∧ at' ≤ l.length ∧ 2 ≤ l.length - at' := by simpa [numOk] using g1
  obtain ⟨_, _, g3, g4, g5⟩ := h'
  have hN := numAt2_lt l hb at'
  obtain ⟨at', rfl⟩ := Int.eq_ofNat_of_zero_le g3
  have HTX : RowKit.Hid (textAt l at' = (l.drop (at' + 2)).take (numAt l at' 2)) := rfl
  have HTL := Lib.hid (textAt_lt l hb at')
  have HR := Lib.hid hr
  have HB := Lib.hid hb
  have G1 := Lib.hid g1
  have hw : wrap64 ((numAt l at' 2 : Nat) : Int) = ((numAt l at' 2 : Nat) : Int) := IntWalk.wrap64_in _ ⟨by omega, by omega⟩
  have HW := Lib.hid hw
  have hcap := hr.2.1
  have hm := hr.2.2.1
  unfold maxLen at hm
  have HA : RowKit.Hid (∃ b off, a = some ⟨b, off, none⟩) := by
    obtain ⟨b, off, e, _⟩ := hr.2.2.2.2 0 (by omega)
    exact ⟨b, off, e⟩
  clear hr hb g1 hw
  obtain ⟨b, off, rfl⟩ := HA.out
  have HN := Lib.hid (refnum_yes (some ⟨b, off, none⟩) l.length cap l at' 2 w HR.out HB.out hn9 G1.out)
  generalize numAt l at' 2 = N at *
  go_enter Try.func89, Try.ntmps89
  go_wp2_with fail
  refine HN.out.mono ?_
  rintro e w' ⟨rfl, rfl⟩
  rw [HW.out]
  go_wp2_with (refine wpList_conv_str rfl _ 39 9 5 rfl Try.underlying39 Try.underlying5 Try.underlying9 _ _ _ (textAt l at') rfl ?_ HTL.out ?_)
  · rw [HTX.out]; exact HR.out.cut' (at' + 2) N (by omega) _ (fun h => by omega) (by simp) _ (by omega)
  · rw [HTX.out]; exact HR.out.cut' (at' + 2) N (by omega) _ (fun _ => rfl) (by simp) _ rfl
  · go_ret3
    exact ⟨rfl, rfl⟩
  · go_ret3
    exact ⟨rfl, rfl⟩

set_option maxRecDepth 100000 in
set_option maxHeartbeats 800000 in
theorem reftext_no (a : Option Addr) (n cap : Nat) (l : List Nat) (at' : Int) (w : World) (hr : Rd w a n cap (u8s l)) (hb : ∀ b ∈ l, b < 256) (hn9 : n ≤ 1000000000) (h : textOk l at' = false)
    (hv : -9223372036854775808 ≤ at' ∧ at' ≤ 9223372036854775807) :
    Calls Try.prog 89 #[.slice a n cap, .int .i64 at'] w fun e w' => e = .returned (.tuple #[.string ⟨#[]⟩, .int .i64 0, .bool false]) ∧ w = w' := by
  have hn := hr.1
  rw [u8s_length] at hn
  subst hn
  cases hok : numOk l.length at' 2 with
  | false =>
    have HN := Lib.hid (refnum_no a l.length cap at' 2 w hn9 hok hv (by omega))
    clear h hok hr
    go_enter Try.func89, Try.ntmps89
    go_wp2_with fail
    refine HN.out.mono ?_
    rintro e w' ⟨rfl, rfl⟩
    go_wp2_with fail
    go_ret3
    exact ⟨rfl, rfl⟩
  | true =>
    have h2 : ¬ ((numAt l at' 2 : Int) ≤ l.length - at' - 2) := by
      simp only [textOk, hok, Bool.true_and, decide_eq_false_iff_not] at h; exact h
    have h' : 1 ≤ (2 : Int) ∧ (2 : Int) ≤ 8 ∧ 0 ≤ at' ∧ at' ≤ l.length ∧ 2 ≤ l.length - at' := by simpa [numOk] using hok
    obtain ⟨_, _, g3, g4, g5⟩ := h'
    have hN := numAt2_lt l hb at'
    have HN := Lib.hid (refnum_yes a l.length cap l at' 2 w hr hb hn9 hok)
    have hw : wrap64 ((numAt l at' 2 : Nat) : Int) = ((numAt l at' 2 : Nat) : Int) := IntWalk.wrap64_in _ ⟨by omega, by omega⟩
    have HW := Lib.hid hw
    clear h hok hr hb hw
    generalize numAt l at' 2 = N at *
    go_enter Try.func89, Try.ntmps89
    go_wp2_with fail
    refine HN.out.mono ?_
    rintro e w' ⟨rfl, rfl⟩
    rw [HW.out]
    go_wp2_with fail
    go_ret3
    exact ⟨rfl, rfl⟩
end Go.Proofs.Ytjhkdbcfkaaffaa
