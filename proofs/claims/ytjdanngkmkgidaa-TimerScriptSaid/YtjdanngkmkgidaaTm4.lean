/- The walk of heap's down. -/
import Derived.Test.YtjdanngkmkgidaaTm3
namespace Go.Proofs.Ytjdanngkmkgidaa
open Go.RowKit
set_option linter.unusedVariables false

def DnR (w : World) (p o g m c : Nat) (n : Nat) (sp : List Value) (r : (Nat → One) × Nat) (v7 : Value) (wr : World) : Prop := ∃ (i q : Nat) (f : Nat → One), i ≤ n ∧ n ≤ i + q ∧ v7 = .int .i64 i ∧ RowKit.Hid (downF q f i n = r) ∧ RowKit.Hid (MH wr p o g m c f sp) ∧ RowKit.Hid (w.grownBy wr (some g))
set_option maxRecDepth 100000 in
set_option maxHeartbeats 4000000 in
theorem down_any (p o g m c i n : Nat) (f : Nat → One) (sp : List Value) (w : World) (h : MH w p o g m c f sp) (hi : i ≤ n) (hnm : n ≤ m) (hn : m ≤ 1000) :
    Calls Try.prog 54 #[.iface 83 (.pointer (some ⟨p, o, none⟩)), .int .i64 i, .int .i64 n] w fun e w' => e = .returned (.bool (decide (i < (downF n f i n).2))) ∧ MH w' p o g m c (downF n f i n).1 sp ∧ w.grownBy w' (some g) := by
  have HM := Lib.hid h
  clear h
  obtain ⟨r, hr⟩ : ∃ r, downF n f i n = r := ⟨_, rfl⟩
  rw [hr]
  have HR := Lib.hid hr
  clear hr
  go_enter Try.func54, Try.ntmps54
  go_wp2_with fail
  go_loopw [7] (fun v7 wr => DnR w p o g m c n sp r v7 wr) (fun v7 _ => n - (intOf v7).toNat)
  case atStart => exact ⟨i, n, f, hi, by omega, rfl, HR.out, HM.out, World.grownBy.refl _ _⟩
  case round =>
    clear HM HR hi
    obtain ⟨k, q, f, hk, hq, rfl, HR, HM, HG⟩ := hrel
    by_cases h1 : n ≤ 2 * k + 1
    · have hr : r = (f, k) := by
        rw [← HR.out]
        cases q with
        | zero => rfl
        | succ q => rw [downF, if_pos h1]
      subst hr
      have d1 : decide ((n : Int) ≤ 2 * (k : Int) + 1) = true := by simp; omega
      clear HR
      go_wp2_with fail
      go_ret
      exact ⟨by simp, HM.out, HG.out⟩
    · have hdn : ∀ cc, childF f k n = cc → downF q f k n = if ltO (f cc) (f k) = false then (f, k) else downF (q - 1) (swapF f k cc) cc n := by
        intro cc hc
        cases q with
        | zero => omega
        | succ q => rw [downF, if_neg h1, hc]; rfl
      obtain ⟨j1, hj1⟩ : ∃ j1, 2 * k + 1 = j1 := ⟨_, rfl⟩
      obtain ⟨j2, hj2⟩ : ∃ j2, 2 * k + 2 = j2 := ⟨_, rfl⟩
      have hch : childF f k n = if j2 < n ∧ ltO (f j2) (f j1) = true then j2 else j1 := by unfold childF; rw [hj1, hj2]
      have e0 : 2 * (k : Int) + 1 = (j1 : Int) := by omega
      have e1 : (j1 : Int) + 1 = (j2 : Int) := by omega
      have hjn : j1 < n := by omega
      have hkj : k < j1 := by omega
      have hj12 : j2 = j1 + 1 := by omega
      have d1 : decide (n ≤ j1) = false := by simp; omega
      have HJ12 := Lib.hid hj12
      clear h1 hj1 hj2 hj12
      by_cases h2 : j2 < n
      · have d2 : decide (j2 < n) = true := by simpa using h2
        have hkj2 : k < j2 := by have := HJ12.out; omega
        have hml := m_less HM.out.1
        go_wp2_with fail
        refine (mless_any g m c j2 j1 f sp _ HM.out.2.1 (by omega) (by omega) hn).mono ?_
        rintro e w2 ⟨rfl, hb⟩
        have HM2 := Lib.hid (HM.out.below hb)
        have HG2 := Lib.hid (grownBy_trans HG.out (grown_below hb (some g)))
        clear hb HM HG hml
        cases hl : ltO (f j2) (f j1) with
        | true =>
          rw [hl, if_pos ⟨h2, rfl⟩] at hch
          have HU := Lib.hid (hdn j2 hch)
          clear hdn hch hl
          have hml2 := m_less HM2.out.1
          go_wp2_with fail
          refine (mless_any g m c j2 k f sp _ HM2.out.2.1 (by omega) (by omega) hn).mono ?_
          rintro e w3 ⟨rfl, hb⟩
          have HM3 := Lib.hid (HM2.out.below hb)
          have HG3 := Lib.hid (grownBy_trans HG2.out (grown_below hb (some g)))
          clear hb HM2 HG2 hml2
          cases hl2 : ltO (f j2) (f k) with
          | false =>
            have hr : r = (f, k) := by rw [← HR.out, HU.out, hl2]; rfl
            subst hr
            clear HR HU hl2
            go_wp2_with fail
            go_ret
            exact ⟨by simp, HM3.out, HG3.out⟩
          | true =>
            have HR2 : RowKit.Hid (downF (q - 1) (swapF f k j2) j2 n = r) := by rw [← HR.out, HU.out, hl2]; rfl
            have hms := m_swap HM3.out.1
            clear HR HU hl2
            go_wp2_with fail
            refine (mswap_any g m c k j2 f sp _ HM3.out.2.1 (by omega) (by omega) hn (by omega)).mono ?_
            rintro e w4 ⟨rfl, hb, hg⟩
            have HM4 := Lib.hid (HM3.out.grown hg hb)
            have HG4 := Lib.hid (grownBy_trans HG3.out hg)
            clear hb hg HM3 HG3 hms
            go_wp2_with fail
            go_roundw
            case rel => exact ⟨j2, q - 1, swapF f k j2, by omega, by omega, rfl, HR2.out, HM4.out, HG4.out⟩
            case measure => simp [intOf]; omega
        | false =>
          rw [hl, if_neg (by simp)] at hch
          have HU := Lib.hid (hdn j1 hch)
          clear hdn hch hl
          have hml2 := m_less HM2.out.1
          go_wp2_with fail
          refine (mless_any g m c j1 k f sp _ HM2.out.2.1 (by omega) (by omega) hn).mono ?_
          rintro e w3 ⟨rfl, hb⟩
          have HM3 := Lib.hid (HM2.out.below hb)
          have HG3 := Lib.hid (grownBy_trans HG2.out (grown_below hb (some g)))
          clear hb HM2 HG2 hml2
          cases hl2 : ltO (f j1) (f k) with
          | false =>
            have hr : r = (f, k) := by rw [← HR.out, HU.out, hl2]; rfl
            subst hr
            clear HR HU hl2
            go_wp2_with fail
            go_ret
            exact ⟨by simp, HM3.out, HG3.out⟩
          | true =>
            have HR2 : RowKit.Hid (downF (q - 1) (swapF f k j1) j1 n = r) := by rw [← HR.out, HU.out, hl2]; rfl
            have hms := m_swap HM3.out.1
            clear HR HU hl2
            go_wp2_with fail
            refine (mswap_any g m c k j1 f sp _ HM3.out.2.1 (by omega) (by omega) hn (by omega)).mono ?_
            rintro e w4 ⟨rfl, hb, hg⟩
            have HM4 := Lib.hid (HM3.out.grown hg hb)
            have HG4 := Lib.hid (grownBy_trans HG3.out hg)
            clear hb hg HM3 HG3 hms
            go_wp2_with fail
            go_roundw
            case rel => exact ⟨j1, q - 1, swapF f k j1, by omega, by omega, rfl, HR2.out, HM4.out, HG4.out⟩
            case measure => simp [intOf]; omega
      · have d2 : decide (j2 < n) = false := by simpa using h2
        rw [if_neg (fun h => h2 h.1)] at hch
        have HU := Lib.hid (hdn j1 hch)
        clear hdn hch
        have hml2 := m_less HM.out.1
        go_wp2_with fail
        refine (mless_any g m c j1 k f sp _ HM.out.2.1 (by omega) (by omega) hn).mono ?_
        rintro e w3 ⟨rfl, hb⟩
        have HM3 := Lib.hid (HM.out.below hb)
        have HG3 := Lib.hid (grownBy_trans HG.out (grown_below hb (some g)))
        clear hb HM HG hml2
        cases hl2 : ltO (f j1) (f k) with
        | false =>
          have hr : r = (f, k) := by rw [← HR.out, HU.out, hl2]; rfl
          subst hr
          clear HR HU hl2
          go_wp2_with fail
          go_ret
          exact ⟨by simp, HM3.out, HG3.out⟩
        | true =>
          have HR2 : RowKit.Hid (downF (q - 1) (swapF f k j1) j1 n = r) := by rw [← HR.out, HU.out, hl2]; rfl
          have hms := m_swap HM3.out.1
          clear HR HU hl2
          go_wp2_with fail
          refine (mswap_any g m c k j1 f sp _ HM3.out.2.1 (by omega) (by omega) hn (by omega)).mono ?_
          rintro e w4 ⟨rfl, hb, hg⟩
          have HM4 := Lib.hid (HM3.out.grown hg hb)
          have HG4 := Lib.hid (grownBy_trans HG3.out hg)
          clear hb hg HM3 HG3 hms
          go_wp2_with fail
          go_roundw
          case rel => exact ⟨j1, q - 1, swapF f k j1, by omega, by omega, rfl, HR2.out, HM4.out, HG4.out⟩
          case measure => simp [intOf]; omega
end Go.Proofs.Ytjdanngkmkgidaa
