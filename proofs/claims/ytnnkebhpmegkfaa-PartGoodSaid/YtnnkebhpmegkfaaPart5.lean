/- The walk of how many cuts a key is not below. -/
import Derived.Test.YtnnkebhpmegkfaaPart4
import Derived.Test.YtnnkebhpmegkfaaRdE
namespace Go.Proofs.Ytnnkebhpmegkfaa
open Go.RowKit
set_option linter.unusedVariables false

/-- a key: its length and its text -/
abbrev KeyL := Int × ByteArray
def KeyL.cells (k : KeyL) : List Value := [.int .i64 k.1, .string k.2]
def kless (a b : KeyL) : Bool := decide (cmpK a.1 a.2 b.1 b.2 < 0)
def belowN (l : List KeyL) (k : KeyL) : Nat := (l.filter fun c => !kless k c).length
theorem belowN_succ (l : List KeyL) (k : KeyL) (j : Nat) (c : KeyL) (h : l[j]? = some c) : belowN (l.take (j + 1)) k = belowN (l.take j) k + (if kless k c then 0 else 1) := by
  unfold belowN
  rw [List.take_add_one, h, List.filter_append, List.length_append]
  cases hk : kless k c <;> simp [hk]
theorem belowN_le (l : List KeyL) (k : KeyL) : belowN l k ≤ l.length := List.length_filter_le _ _
/-- A greater key is not below fewer cuts. -/
theorem belowN_mono (l : List KeyL) (a b : KeyL) (h : kless a b = true) : belowN l a ≤ belowN l b := by
  unfold belowN
  induction l with
  | nil => simp
  | cons c l ih =>
    have : kless b c = true → kless a c = true := by
      unfold kless at h ⊢
      simp only [decide_eq_true_eq] at h ⊢
      exact fun k => cmpK_trans h k
    rw [List.filter_cons, List.filter_cons]
    cases hb : kless b c
    · cases ha : kless a c <;> simp <;> omega
    · simp [this hb]; exact ih
set_option maxRecDepth 100000 in
set_option maxHeartbeats 4000000 in
theorem below_any (a : Option Addr) (n cap : Nat) (l : List KeyL) (lk : Int) (tk : ByteArray) (w : World) (hr : RdE KeyL.cells 2 w a n cap l) (hl : l.length ≤ 100) :
    Calls Try.prog 57 #[.slice a n cap, .agg #[.int .i64 lk, .string tk], .func (.func 33) #[] #[]] w fun e w' => e = .returned (.int .i64 (belowN l (lk, tk))) ∧ Below w.heap.size w w' := by
  have hn := hr.1
  subst hn
  have hcap := hr.2.1
  have HR := Lib.hid hr
  clear hr
  go_enter Try.func57, Try.ntmps57
  go_wp2_with fail
  go_loopw [7, 9, 12] (fun nn c i wr => ∃ k : Nat, k ≤ l.length ∧ i = .int .i64 k ∧ nn = .int .i64 (belowN (l.take k) (lk, tk)) ∧ RowKit.Hid (Blk wr w.heap.size 58 [.int .i64 lk, .string tk]) ∧ RowKit.Hid (Below w.heap.size w wr)) (fun _ _ i _ => l.length - (intOf i).toNat)
  case atStart => exact ⟨0, by omega, rfl, rfl, (show Blk (w.alloc (.cells #[.int .i64 lk, .string tk] 58)) _ _ _ by unfold Blk; rw [heap_alloc_new]), (Below.refl _ w).alloc (Nat.le_refl _) _⟩
  case round =>
    obtain ⟨k, hk, rfl, rfl, HK, HB⟩ := hrel
    by_cases hlt : k < l.length
    · obtain ⟨⟨lc, tc⟩, hx⟩ : ∃ x, l[k]? = some x := ⟨l[k], List.getElem?_eq_getElem hlt⟩
      obtain ⟨b, off, rfl, hbl, hc⟩ := (HR.out.below HB.out rfl).2.2.2.2 k (lc, tc) hx
      have c0 : wr.cell? ⟨b, off + k * 2, none⟩ = some (.int .i64 lc) := hc 0 (by decide)
      have c1 : wr.cell? ⟨b, off + k * 2 + 1, none⟩ = some (.string tc) := hc 1 (by decide)
      clear hc
      have k0 : (wr.alloc (.cells #[.int .i64 lc, .string tc] 58)).cell? ⟨w.heap.size, 0, none⟩ = some (.int .i64 lk) := (HK.out.alloc _).cell 0
      have k1 : (wr.alloc (.cells #[.int .i64 lc, .string tc] 58)).cell? ⟨w.heap.size, 1, none⟩ = some (.string tk) := (HK.out.alloc _).cell 1
      have HN := Lib.hid (show Blk (wr.alloc (.cells #[.int .i64 lc, .string tc] 58)) wr.heap.size 58 [.int .i64 lc, .string tc] by unfold Blk; rw [heap_alloc_new])
      have d0 : (wr.alloc (.cells #[.int .i64 lc, .string tc] 58)).cell? ⟨wr.heap.size, 0, none⟩ = some (.int .i64 lc) := HN.out.cell 0
      have d1 : (wr.alloc (.cells #[.int .i64 lc, .string tc] 58)).cell? ⟨wr.heap.size, 1, none⟩ = some (.string tc) := HN.out.cell 1
      have HK1 := Lib.hid (HK.out.alloc (.cells #[.int .i64 lc, .string tc] 58))
      have HB1 := Lib.hid (HB.out.alloc HB.out.size (.cells #[.int .i64 lc, .string tc] 58))
      have hlt1 := HK.out.lt
      have hsz : (wr.alloc (.cells #[.int .i64 lc, .string tc] 58)).heap.size = wr.heap.size + 1 := by simp
      have HL := Lib.hid (fun W => kless_any lk tk lc tc W)
      have hbn := belowN_succ l (lk, tk) k (lc, tc) hx
      have hbl' := belowN_le (l.take k) (lk, tk)
      rw [List.length_take] at hbl'
      obtain ⟨N, hN⟩ : ∃ N, belowN (l.take k) (lk, tk) = N := ⟨_, rfl⟩
      rw [hN] at hbn hbl' ⊢
      go_wp2_with fail
      refine (HL.out _).mono ?_
      rintro e w' ⟨rfl, hb⟩
      have HK2 := Lib.hid (HK1.out.below hb (by omega))
      have HB2 := Lib.hid (HB1.out.trans (hb.mono (by omega)))
      clear hb
      cases hd : decide (cmpK lk tk lc tc < 0) with
      | true =>
        have hkl : kless (lk, tk) (lc, tc) = true := hd
        rw [hkl, if_pos rfl] at hbn
        go_wp2_with fail
        go_roundw
        case rel => exact ⟨k + 1, by omega, by go_num, by rw [hbn]; rfl, HK2.out, HB2.out⟩
        case measure => simp [intOf]; omega
      | false =>
        have hkl : kless (lk, tk) (lc, tc) = false := hd
        rw [hkl, if_neg (by simp)] at hbn
        go_wp2_with fail
        go_roundw
        case rel => exact ⟨k + 1, by omega, by go_num, by rw [hbn]; go_num, HK2.out, HB2.out⟩
        case measure => simp [intOf]; omega
    · obtain rfl : k = l.length := by omega
      rw [List.take_length]
      go_wp2_with fail
      go_ret
      exact ⟨rfl, HB.out⟩
end Go.Proofs.Ytnnkebhpmegkfaa
