/- The items' order is one; rotateCmpFunc, insertionSortCmpFunc of items. -/
import Derived.Test.YtjacebnjmhbcbaaSt1
namespace Go.Proofs.Ytjacebnjmhbcbaa
open Go.RowKit
set_option linter.unusedVariables false

theorem cb_anti : ∀ (a b : List UInt8), Lib.compareBytes b a = - Lib.compareBytes a b
  | [], [] => rfl
  | [], _ :: _ => rfl
  | _ :: _, [] => rfl
  | a :: xs, b :: ys => by
    unfold Lib.compareBytes
    by_cases h1 : a < b
    · have h2 : ¬ b < a := by simp only [UInt8.lt_iff_toNat_lt] at *; omega
      simp [h1, h2]
    · by_cases h2 : b < a
      · simp [h1, h2]
      · simp only [h1, h2, if_false]; exact cb_anti xs ys
theorem cb_eq : ∀ (a b : List UInt8), Lib.compareBytes a b = 0 → a = b
  | [], [], _ => rfl
  | [], _ :: _, h => by simp [Lib.compareBytes] at h
  | _ :: _, [], h => by simp [Lib.compareBytes] at h
  | a :: xs, b :: ys, h => by
    unfold Lib.compareBytes at h
    by_cases h1 : a < b
    · rw [if_pos h1] at h; simp at h
    · rw [if_neg h1] at h
      by_cases h2 : b < a
      · rw [if_pos h2] at h; simp at h
      · rw [if_neg h2] at h
        rw [cb_eq xs ys h]
        congr 1
        apply UInt8.toNat_inj.1
        simp only [UInt8.lt_iff_toNat_lt] at h1 h2
        omega
theorem cmpT_anti (a b : ByteArray) : cmpT b a = - cmpT a b := cb_anti _ _
theorem cmpT_eq {a b : ByteArray} (h : cmpT a b = 0) : a = b := by
  have := cb_eq _ _ h
  apply ByteArray.ext
  exact Array.toList_inj.1 this
theorem kless_iff (a b : KeyL) : kless a b = true ↔ a.1 < b.1 ∨ a.1 = b.1 ∧ cmpT a.2 b.2 < 0 := by unfold kless; rw [decide_eq_true_eq, cmpK_neg]
/-- of two unlike items one is ahead -/
theorem kless_tri {a b : KeyL} (h1 : kless a b = false) (h2 : kless b a = false) : a = b := by
  have n1 : ¬ kless a b = true := by rw [h1]; decide
  have n2 : ¬ kless b a = true := by rw [h2]; decide
  rw [kless_iff] at n1 n2
  have hl : a.1 = b.1 := by omega
  have ha := cmpT_anti a.2 b.2
  have ht : cmpT a.2 b.2 = 0 := by omega
  exact Prod.ext hl (cmpT_eq ht)
theorem kless_trans {a b c : KeyL} (h : kless a b = true) (k : kless b c = true) : kless a c = true := by
  unfold kless at *
  rw [decide_eq_true_eq] at *
  exact cmpK_trans h k
theorem kless_asym {a b : KeyL} (h : kless a b = true) : kless b a = false := by
  cases hb : kless b a
  · rfl
  · rw [kless_iff] at h hb
    have := cmpT_anti a.2 b.2
    omega
theorem kless_ord : Ord kless := by
  refine ⟨fun x y z h1 h2 => ?_, fun x y h => kless_asym h⟩
  cases hz : kless z x
  · rfl
  · by_cases e : x = y
    · subst e; exact absurd (h2.symm.trans hz) (by decide)
    · have hxy : kless x y = true := by
        cases hb : kless x y
        · exact absurd (kless_tri hb h1) e
        · rfl
      exact absurd (h2.symm.trans (kless_trans hz hxy)) (by decide)
theorem kless_irr (x : KeyL) : kless x x = false := kless_ord.refl x
theorem swR_seg {α : Type} {a b n lo hi : Nat} (D : Nat → α) (h : a + n ≤ b) (h1 : lo ≤ a) (h2 : b + n ≤ hi) : ∀ i, i ≤ n → Seg lo hi D (swR D a b i)
  | 0, _ => by rw [swR_zero]; exact Seg.refl _ _ _
  | i + 1, hi' => by
    rw [← swR_succ D a b i n h (by omega)]
    exact (swR_seg D h h1 h2 i (by omega)).trans (Seg.swap _ (by omega) (by omega) (by omega) (by omega))
def RtR (w : World) (g n a m b : Nat) (D : Nat → KeyL) (sp : List Value) (v10 v11 : Value) (wr : World) : Prop := ∃ (i j : Nat) (E : Nat → KeyL), 1 ≤ i ∧ 1 ≤ j ∧ i ≤ m - a ∧ m + j ≤ b ∧ v10 = .int .i64 i ∧ v11 = .int .i64 j ∧ RowKit.Hid (rotF E (m - i) m (m + j) = rotF D a m b) ∧ RowKit.Hid (Seg a b D E) ∧ RowKit.Hid (HI wr g n E sp) ∧ RowKit.Hid (Frm (fun k => k = g) w wr)
set_option maxRecDepth 100000 in
set_option maxHeartbeats 4000000 in
theorem rotate_any (g n c a m b : Nat) (D : Nat → KeyL) (sp : List Value) (w : World) (v : Value) (h : HI w g n D sp) (h1 : a < m) (h2 : m < b) (h3 : b ≤ n) (hn : n ≤ 100000) :
    Calls Try.prog 70 #[.slice (some ⟨g, 0, none⟩) n c, .int .i64 a, .int .i64 m, .int .i64 b, v] w fun e w' => e = .returned (.tuple #[]) ∧ HI w' g n (rotF D a m b) sp ∧ Frm (fun k => k = g) w w' ∧ Seg a b D (rotF D a m b) := by
  have HH := Lib.hid h
  clear h
  have w1 : IntKind.i64.wrap ((m : Int) - (a : Int)) = ((m - a : Nat) : Int) := by rw [IntWalk.i64_in _ (by omega)]; omega
  have w2 : IntKind.i64.wrap ((b : Int) - (m : Int)) = ((b - m : Nat) : Int) := by rw [IntWalk.i64_in _ (by omega)]; omega
  go_enter Try.func70, Try.ntmps70
  go_wp2_with fail
  clear w1 w2
  go_loopw [10, 11] (fun v10 v11 wr => RtR w g n a m b D sp v10 v11 wr) (fun v10 v11 _ => (intOf v10).toNat + (intOf v11).toNat)
  case atStart => exact ⟨m - a, b - m, D, by omega, by omega, by omega, by omega, rfl, rfl, by unfold RowKit.Hid; rw [show m - (m - a) = a by omega, show m + (b - m) = b by omega], Seg.refl _ _ _, HH.out, Frm.refl _ _⟩
  case round =>
    clear HH
    obtain ⟨i, j, E, hi, hj, him, hjb, rfl, rfl, HR, HS, HH, HF⟩ := hrel
    obtain ⟨p, hp⟩ : ∃ p, m - i = p := ⟨_, rfl⟩
    have w1 : IntKind.i64.wrap ((m : Int) - (i : Int)) = (p : Int) := by rw [IntWalk.i64_in _ (by omega)]; omega
    have HP := Lib.hid hp
    by_cases e : i = j
    · subst e
      have d1 : ((i : Int) != (i : Int)) = false := by simp
      have hpm : p + i ≤ m := by omega
      clear hp
      go_wp2_with fail
      have hm2 : m + i ≤ n := by omega
      (with_reducible refine (swapRange_any g n c p m i E sp _ _ HH.out hpm hm2 hn).mono ?_)
      rintro e w1 ⟨rfl, hh, hf⟩
      have hrot := HR.out
      rw [HP.out, ← HP.out, ← rot_last E m i (by omega), HP.out] at hrot
      rw [hrot] at hh
      have HH2 := Lib.hid hh
      have HF2 := Lib.hid (HF.out.trans hf (fun _ h _ => h))
      have HS2 := Lib.hid (show Seg a b D (rotF D a m b) from by rw [← hrot]; exact HS.out.trans (swR_seg E hpm (by have := HP.out; omega) hjb i (Nat.le_refl _)))
      clear hh hf hrot
      go_wp2_with fail
      go_end0
      exact ⟨rfl, HH2.out, HF2.out, HS2.out⟩
    · have d1 : ((i : Int) != (j : Int)) = true := by simp; omega
      by_cases hl : j < i
      · have hpm : p + j ≤ m := by omega
        have d2 : decide ((j : Int) < (i : Int)) = true := by simp; omega
        have w3 : IntKind.i64.wrap ((i : Int) - (j : Int)) = ((i - j : Nat) : Int) := by rw [IntWalk.i64_in _ (by omega)]; omega
        clear hp
        go_wp2_with fail
        have hm2 : m + j ≤ n := by omega
        (with_reducible refine (swapRange_any g n c p m j E sp _ _ HH.out hpm hm2 hn).mono ?_)
        rintro e w1 ⟨rfl, hh, hf⟩
        have HH2 := Lib.hid hh
        have HF2 := Lib.hid (HF.out.trans hf (fun _ h _ => h))
        have HS2 := Lib.hid (HS.out.trans (swR_seg E hpm (by have := HP.out; omega) hjb j (Nat.le_refl _)))
        have HR2 := Lib.hid (show rotF (swR E p m j) (m - (i - j)) m (m + j) = rotF D a m b from by rw [← HR.out, ← HP.out]; exact rot_left E m i j (by omega) hl)
        clear hh hf
        go_wp2_with fail
        go_roundw
        case rel => exact ⟨i - j, j, swR E p m j, by omega, by omega, by omega, by omega, rfl, rfl, HR2.out, HS2.out, HH2.out, HF2.out⟩
        case measure => simp [intOf]; omega
      · have hl2 : i < j := by omega
        have d2 : decide ((j : Int) < (i : Int)) = false := by simp; omega
        obtain ⟨q, hq⟩ : ∃ q, m + j - i = q := ⟨_, rfl⟩
        have hpm : p + i ≤ q := by omega
        obtain ⟨r, hr⟩ : ∃ r, m + j = r := ⟨_, rfl⟩
        have w3 : IntKind.i64.wrap ((m : Int) + (j : Int)) = (r : Int) := by rw [IntWalk.i64_in _ (by omega)]; omega
        have w4 : IntKind.i64.wrap ((r : Int) - (i : Int)) = (q : Int) := by rw [IntWalk.i64_in _ (by omega)]; omega
        have w5 : IntKind.i64.wrap ((j : Int) - (i : Int)) = ((j - i : Nat) : Int) := by rw [IntWalk.i64_in _ (by omega)]; omega
        have HQ := Lib.hid hq
        have hqi : q + i ≤ n := by omega
        clear hp hq hr
        go_wp2_with fail
        (with_reducible refine (swapRange_any g n c p q i E sp _ _ HH.out hpm hqi hn).mono ?_)
        rintro e w1 ⟨rfl, hh, hf⟩
        have HH2 := Lib.hid hh
        have HF2 := Lib.hid (HF.out.trans hf (fun _ h _ => h))
        have HS2 := Lib.hid (HS.out.trans (swR_seg E hpm (by have := HP.out; omega) (show q + i ≤ b from by have := HQ.out; omega) i (Nat.le_refl _)))
        have HR2 := Lib.hid (show rotF (swR E p q i) (m - i) m (m + (j - i)) = rotF D a m b from by rw [← HR.out, ← HP.out, ← HQ.out]; exact rot_right E m i j (by omega) hl2)
        clear hh hf
        go_wp2_with fail
        go_roundw
        case rel => exact ⟨i, j - i, swR E p q i, by omega, by omega, by omega, by omega, rfl, rfl, HR2.out, HS2.out, HH2.out, HF2.out⟩
        case measure => simp [intOf]; omega
end Go.Proofs.Ytjacebnjmhbcbaa
