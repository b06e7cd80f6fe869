/- symMergeCmpFunc of items: one element on the left. -/
import Derived.Test.YtjacebnjmhbcbaaSt3
namespace Go.Proofs.Ytjacebnjmhbcbaa
open Go.RowKit
set_option linter.unusedVariables false

theorem shU_seg {α : Type} {a hi : Nat} (D : Nat → α) : ∀ k, a + k < hi → Seg a hi D (shU D a (a + k))
  | 0, _ => by rw [Nat.add_zero, shU_zero]; exact Seg.refl _ _ _
  | k + 1, h => by
    rw [← Nat.add_assoc, ← shU_succ D a (a + k) (by omega)]
    exact (shU_seg D k (by omega)).trans (Seg.swap _ (by omega) (by omega) (by omega) (by omega))
theorem shD_seg {α : Type} {m lo hi : Nat} (D : Nat → α) (h0 : m < hi) : ∀ k, lo + k ≤ m → Seg lo hi D (shD D m (m - k))
  | 0, _ => by rw [Nat.sub_zero, shD_zero]; exact Seg.refl _ _ _
  | k + 1, h => by
    rw [show m - (k + 1) = m - k - 1 by omega, ← shD_succ D m (m - k) (by omega) (by omega)]
    exact (shD_seg D h0 k (by omega)).trans (Seg.swap _ (by omega) (by omega) (by omega) (by omega))
theorem less_down {D : Nat → KeyL} {a b h k : Nat} (x : KeyL) (hs : Srt kless D a b) (h1 : a ≤ k) (h2 : k ≤ h) (h3 : h < b) (hl : kless (D h) x = true) : kless (D k) x = true := by
  by_cases e : k = h
  · rw [e]; exact hl
  · have h4 := hs k h h1 (by omega) h3
    cases hk : kless (D k) x
    · have := kless_ord.trans x (D k) (D h) hk h4
      rw [this] at hl; exact absurd hl (by decide)
    · rfl
theorem less_up {D : Nat → KeyL} {a b h k : Nat} (x : KeyL) (hs : Srt kless D a b) (h1 : a ≤ h) (h2 : h ≤ k) (h3 : k < b) (hl : kless (D h) x = false) : kless (D k) x = false := by
  by_cases e : k = h
  · rw [e]; exact hl
  · exact kless_ord.trans x (D h) (D k) hl (hs h k h1 (by omega) h3)
def S1R (w : World) (g n a m b : Nat) (D : Nat → KeyL) (sp : List Value) (v10 v11 : Value) (wr : World) : Prop := ∃ i j : Nat, m ≤ i ∧ i ≤ j ∧ j ≤ b ∧ v10 = .int .i64 i ∧ v11 = .int .i64 j ∧ RowKit.Hid (∀ k, m ≤ k → k < i → kless (D k) (D a) = true) ∧ RowKit.Hid (∀ k, j ≤ k → k < b → kless (D k) (D a) = false) ∧ RowKit.Hid (HI wr g n D sp) ∧ RowKit.Hid (Frm (fun k => k = g) w wr)
def S1S (w : World) (g n a i : Nat) (D : Nat → KeyL) (sp : List Value) (v13 : Value) (wr : World) : Prop := ∃ k : Nat, a ≤ k ∧ k + 1 ≤ i ∧ v13 = .int .i64 k ∧ RowKit.Hid (HI wr g n (shU D a k) sp) ∧ RowKit.Hid (Frm (fun k => k = g) w wr)
def SymEnd (w : World) (g n a b : Nat) (D : Nat → KeyL) (sp : List Value) (e : Ending) (w' : World) : Prop := e = .returned (.tuple #[]) ∧ ∃ E, HI w' g n E sp ∧ Frm (fun k => k = g) w w' ∧ Seg a b D E ∧ Srt kless E a b
set_option maxRecDepth 100000 in
set_option maxHeartbeats 4000000 in
theorem sym1_any (g n c a m b : Nat) (D : Nat → KeyL) (sp : List Value) (w : World) (h : HI w g n D sp) (h1 : m = a + 1) (h2 : m < b) (h3 : b ≤ n) (hn : n ≤ 100000) (hs : Srt kless D m b) :
    Calls Try.prog 68 #[.slice (some ⟨g, 0, none⟩) n c, .int .i64 a, .int .i64 m, .int .i64 b, cmpV] w fun e w' => SymEnd w g n a b D sp e w' := by
  unfold cmpV
  have HH := Lib.hid h
  have HSR := Lib.hid hs
  clear h hs
  have w1 : IntKind.i64.wrap ((m : Int) - (a : Int)) = 1 := by rw [IntWalk.i64_in _ (by omega)]; omega
  have HM := Lib.hid h1
  have hma : a < m := by omega
  have hma2 : m ≤ a + 1 := by omega
  clear h1
  go_enter Try.func68, Try.ntmps68
  go_wp2_with fail
  clear w1
  go_loopw [10, 11] (fun v10 v11 wr => S1R w g n a m b D sp v10 v11 wr) (fun v10 v11 _ => (intOf v11).toNat - (intOf v10).toNat)
  case atStart => exact ⟨m, b, by omega, by omega, by omega, rfl, rfl, fun k k1 k2 => by omega, fun k k1 k2 => by omega, HH.out, Frm.refl _ _⟩
  case round =>
    clear HH
    obtain ⟨i, j, hi1, hij, hjb, rfl, rfl, HLO, HHI, HH, HF⟩ := hrel
    by_cases hlt : i < j
    · obtain ⟨q, hq⟩ : ∃ q, (i + j) / 2 = q := ⟨_, rfl⟩
      have wq : ((i : Int) + (j : Int)) / 2 = (q : Int) := by omega
      have q1 : i ≤ q := by omega
      have q2 : q < j := by omega
      have HDN := Lib.hid (fun (hl : kless (D q) (D a) = true) k (k1 : m ≤ k) (k2 : k < q + 1) => less_down (D a) HSR.out k1 (by omega : k ≤ q) (by omega : q < b) hl)
      have HUP := Lib.hid (fun (hl : kless (D q) (D a) = false) k (k1 : q ≤ k) (k2 : k < b) => less_up (D a) HSR.out (by omega : m ≤ q) k1 k2 hl)
      have HKL := Lib.hid (cmpK_dec (D q) (D a))
      have b1q : q < n := by omega
      have b2q : (0 : Int) ≤ (q : Int) := by omega
      have b3q : (q : Int) < (n : Int) := by omega
      have b1a : a < n := by omega
      have b2a : (0 : Int) ≤ (a : Int) := by omega
      have b3a : (a : Int) < (n : Int) := by omega
      have x0 := HH.out.c0 (k := q) (by omega)
      have x1 := HH.out.c1 (k := q) (by omega)
      have y0 := HH.out.c0 (k := a) (by omega)
      have y1 := HH.out.c1 (k := a) (by omega)
      have hqq := hq
      clear hq
      have hgl := Blk.lt HH.out
      have hkl := HKL.out
      obtain ⟨x, hx⟩ : ∃ x, D q = x := ⟨_, rfl⟩
      obtain ⟨y, hy⟩ : ∃ y, D a = y := ⟨_, rfl⟩
      rw [hx, hy] at hkl
      rw [hx] at x0 x1
      rw [hy] at y0 y1
      have HXY := Lib.hid (show kless x y = kless (D q) (D a) from by rw [hx, hy])
      clear hx hy hqq
      go_upto_region 5 with fail
      go_region_held3 (fun w' => w'.cell? ⟨g, q * 2, none⟩ = some (.int .i64 x.1) ∧ w'.cell? ⟨g, q * 2 + 1, none⟩ = some (.string x.2) ∧ w'.cell? ⟨g, a * 2, none⟩ = some (.int .i64 y.1) ∧ w'.cell? ⟨g, a * 2 + 1, none⟩ = some (.string y.2)) (first | go_keep | exact ⟨(HB.out.cell (p := ⟨g, q * 2, none⟩) hgl).trans x0, (HB.out.cell (p := ⟨g, q * 2 + 1, none⟩) hgl).trans x1, (HB.out.cell (p := ⟨g, a * 2, none⟩) hgl).trans y0, (HB.out.cell (p := ⟨g, a * 2 + 1, none⟩) hgl).trans y1⟩) ((go_at_call 38; refine (itcmp_any x.1 x.2 y.1 y.2 _).mono ?_; rintro e u ⟨rfl, hb⟩; have HB := Lib.hid hb; clear hb))
      have HIu := Lib.hid ((show HI wr.drew g n D sp from HH.out).below HB.out)
      have HFu := Lib.hid (HF.out.drew.trans (Frm.below (S := fun k => k = g) HB.out) (fun _ h _ => h))
      clear x0 x1 y0 y1 HH HF HB
      cases hk : kless x y
      · have HK := Lib.hid (HXY.out.symm.trans hk)
        rw [hk] at hkl
        clear hk
        go_wp2_with fail
        clear wq
        go_roundw
        case rel => exact ⟨i, q, hi1, q1, by omega, rfl, rfl, HLO.out, HUP.out HK.out, HIu.out, HFu.out⟩
        case measure => simp [intOf]; omega
      · have HK := Lib.hid (HXY.out.symm.trans hk)
        rw [hk] at hkl
        clear hk
        go_wp2_with fail
        clear wq
        go_roundw
        case rel => exact ⟨q + 1, j, by omega, by omega, hjb, by go_num, rfl, HDN.out HK.out, HHI.out, HIu.out, HFu.out⟩
        case measure => simp [intOf]; omega
    · obtain rfl : i = j := by omega
      have HSE := Lib.hid (show Srt kless (shU D a (i - 1)) a b from shU_srt kless_ord (by rw [← HM.out]; exact HSR.out) (by omega) hjb (fun k k1 k2 => HLO.out k (by omega) k2) HHI.out)
      have HSG := Lib.hid (show Seg a b D (shU D a (i - 1)) from by have := shU_seg (a := a) (hi := b) D (i - 1 - a) (by omega); rwa [show a + (i - 1 - a) = i - 1 by omega] at this)
      have HH0 := Lib.hid (show HI wr g n (shU D a a) sp from by rw [shU_zero]; exact HH.out)
      obtain ⟨r, hr⟩ : ∃ r, i - 1 = r := ⟨_, rfl⟩
      have wi : IntKind.i64.wrap ((i : Int) - 1) = (r : Int) := by rw [IntWalk.i64_in _ (by omega)]; omega
      rw [hr] at HSE HSG
      have har : a ≤ r := by omega
      have hrb : r < b := by omega
      clear HLO HHI HH hr
      go_wp2_with fail
      go_loopw [13] (fun v13 wq => S1S w g n a (r + 1) D sp v13 wq) (fun v13 _ => r - (intOf v13).toNat)
      case atStart => exact ⟨a, by omega, by omega, rfl, HH0.out, HF.out⟩
      case round =>
        clear HH0 HF
        obtain ⟨k, hk1, hk2, rfl, HH, HF⟩ := hrel
        by_cases hkr : k < r
        · obtain ⟨p, hp⟩ : ∃ p, k + 1 = p := ⟨_, rfl⟩
          have wp : IntKind.i64.wrap ((k : Int) + 1) = (p : Int) := by rw [IntWalk.i64_in _ (by omega)]; omega
          have HSU := Lib.hid (show swF (shU D a k) k p = shU D a p from by rw [← hp]; exact shU_succ D a k hk1)
          generalize shU D a k = G at *
          have x0 := HH.out.c0 (k := k) (by omega)
          have x1 := HH.out.c1 (k := k) (by omega)
          have y0 := HH.out.c0 (k := p) (by omega)
          have y1 := HH.out.c1 (k := p) (by omega)
          have b1k : k < n := by omega
          have b2k : (0 : Int) ≤ (k : Int) := by omega
          have b3k : (k : Int) < (n : Int) := by omega
          have b1p : p < n := by omega
          have b2p : (0 : Int) ≤ (p : Int) := by omega
          have b3p : (p : Int) < (n : Int) := by omega
          have n1 : k * 2 ≠ p * 2 := by omega
          have n2 : k * 2 + 1 ≠ p * 2 + 1 := by omega
          have n3 : k * 2 ≠ p * 2 + 1 := by omega
          have n4 : k * 2 + 1 ≠ p * 2 := by omega
          have HX := Lib.hid (show HI (swW wr g k p (G k) (G p)) g n (shU D a p) sp from by rw [← HSU.out]; exact HH.out.swap (by omega) (by omega) (by omega))
          have HF2 := Lib.hid (HF.out.trans (swW_frm wr g k p (G k) (G p)) (fun _ h _ => h))
          have fz : ∀ k, wr.frozen? ⟨g, k, none⟩ = false := fun k => Blk.frozen HH.out k
          have hp1 : a ≤ p := by omega
          have hp2 : p ≤ r := by omega
          have hp3 : k < p := by omega
          clear hp HSU HH HF
          generalize G k = x at *
          generalize G p = y at *
          go_wp2_with fail
          go_region
          all_goals
            go_wp2_with fail
            clear wp
            go_roundw
            case rel => exact ⟨p, hp1, by omega, rfl, HX.out, HF2.out.drew⟩
            case measure => simp [intOf]; omega
        · obtain rfl : k = r := by omega
          go_wp2_with fail
          go_end0
          exact ⟨rfl, shU D a k, HH.out, HF.out, HSG.out, HSE.out⟩
end Go.Proofs.Ytjacebnjmhbcbaa
