/- symMergeCmpFunc of items: one element on the right. -/
import Derived.Test.YtjacebnjmhbcbaaSt4
namespace Go.Proofs.Ytjacebnjmhbcbaa
open Go.RowKit
set_option linter.unusedVariables false

theorem more_down {D : Nat → KeyL} {a b h k : Nat} (x : KeyL) (hs : Srt kless D a b) (h1 : a ≤ k) (h2 : k ≤ h) (h3 : h < b) (hl : kless x (D h) = false) : kless x (D k) = false := by
  by_cases e : k = h
  · rw [e]; exact hl
  · exact kless_ord.trans (D k) (D h) x (hs k h h1 (by omega) h3) hl
theorem more_up {D : Nat → KeyL} {a b h k : Nat} (x : KeyL) (hs : Srt kless D a b) (h1 : a ≤ h) (h2 : h ≤ k) (h3 : k < b) (hl : kless x (D h) = true) : kless x (D k) = true := by
  by_cases e : k = h
  · rw [e]; exact hl
  · cases hk : kless x (D k)
    · have := kless_ord.trans (D h) (D k) x (hs h k h1 (by omega) h3) hk
      rw [this] at hl; exact absurd hl (by decide)
    · rfl
def S2R (w : World) (g n a m : Nat) (D : Nat → KeyL) (sp : List Value) (v10 v11 : Value) (wr : World) : Prop := ∃ i j : Nat, a ≤ i ∧ i ≤ j ∧ j ≤ m ∧ v10 = .int .i64 i ∧ v11 = .int .i64 j ∧ RowKit.Hid (∀ k, a ≤ k → k < i → kless (D m) (D k) = false) ∧ RowKit.Hid (∀ k, j ≤ k → k < m → kless (D m) (D k) = true) ∧ RowKit.Hid (HI wr g n D sp) ∧ RowKit.Hid (Frm (fun k => k = g) w wr)
def S2S (w : World) (g n m i : Nat) (D : Nat → KeyL) (sp : List Value) (v13 : Value) (wr : World) : Prop := ∃ k : Nat, i ≤ k ∧ k ≤ m ∧ v13 = .int .i64 k ∧ RowKit.Hid (HI wr g n (shD D m k) sp) ∧ RowKit.Hid (Frm (fun k => k = g) w wr)
set_option maxRecDepth 100000 in
set_option maxHeartbeats 4000000 in
theorem sym2_any (g n c a m b : Nat) (D : Nat → KeyL) (sp : List Value) (w : World) (h : HI w g n D sp) (h0 : m ≠ a + 1) (h1 : b = m + 1) (h2 : a < m) (h3 : b ≤ n) (hn : n ≤ 100000) (hs : Srt kless D a m) :
    Calls Try.prog 68 #[.slice (some ⟨g, 0, none⟩) n c, .int .i64 a, .int .i64 m, .int .i64 b, cmpV] w fun e w' => SymEnd w g n a b D sp e w' := by
  unfold cmpV
  have HH := Lib.hid h
  have HSR := Lib.hid hs
  clear h hs
  obtain ⟨d, hd⟩ : ∃ d, m - a = d := ⟨_, rfl⟩
  have w1 : IntKind.i64.wrap ((m : Int) - (a : Int)) = (d : Int) := by rw [IntWalk.i64_in _ (by omega)]; omega
  have w2 : IntKind.i64.wrap ((b : Int) - (m : Int)) = 1 := by rw [IntWalk.i64_in _ (by omega)]; omega
  have d1 : ((d : Int) == 1) = false := by simp; omega
  have HM := Lib.hid h1
  have hmb : m < b := by omega
  have hmb2 : b ≤ m + 1 := by omega
  clear h1 hd
  go_enter Try.func68, Try.ntmps68
  go_wp2_with fail
  clear w1 w2 d1
  go_loopw [14, 15] (fun v10 v11 wr => S2R w g n a m D sp v10 v11 wr) (fun v10 v11 _ => (intOf v11).toNat - (intOf v10).toNat)
  case atStart => exact ⟨a, m, by omega, by omega, by omega, rfl, rfl, fun k k1 k2 => by omega, fun k k1 k2 => by omega, HH.out, Frm.refl _ _⟩
  case round =>
    clear HH
    obtain ⟨i, j, hi1, hij, hjb, rfl, rfl, HLO, HHI, HH, HF⟩ := hrel
    by_cases hlt : i < j
    · obtain ⟨q, hq⟩ : ∃ q, (i + j) / 2 = q := ⟨_, rfl⟩
      have wq : ((i : Int) + (j : Int)) / 2 = (q : Int) := by omega
      have q1 : i ≤ q := by omega
      have q2 : q < j := by omega
      have HDN := Lib.hid (fun (hl : kless (D m) (D q) = false) k (k1 : a ≤ k) (k2 : k < q + 1) => more_down (D m) HSR.out k1 (by omega : k ≤ q) (by omega : q < m) hl)
      have HUP := Lib.hid (fun (hl : kless (D m) (D q) = true) k (k1 : q ≤ k) (k2 : k < m) => more_up (D m) HSR.out (by omega : a ≤ q) k1 k2 hl)
      have HKL := Lib.hid (cmpK_dec (D m) (D q))
      have b1q : q < n := by omega
      have b2q : (0 : Int) ≤ (q : Int) := by omega
      have b3q : (q : Int) < (n : Int) := by omega
      have b1m : m < n := by omega
      have b2m : (0 : Int) ≤ (m : Int) := by omega
      have b3m : (m : Int) < (n : Int) := by omega
      have x0 := HH.out.c0 (k := m) (by omega)
      have x1 := HH.out.c1 (k := m) (by omega)
      have y0 := HH.out.c0 (k := q) (by omega)
      have y1 := HH.out.c1 (k := q) (by omega)
      clear hq
      have hgl := Blk.lt HH.out
      have hkl := HKL.out
      obtain ⟨x, hx⟩ : ∃ x, D m = x := ⟨_, rfl⟩
      obtain ⟨y, hy⟩ : ∃ y, D q = y := ⟨_, rfl⟩
      rw [hx, hy] at hkl
      rw [hx] at x0 x1
      rw [hy] at y0 y1
      have HXY := Lib.hid (show kless x y = kless (D m) (D q) from by rw [hx, hy])
      clear hx hy
      go_upto_region 17 with fail
      go_region_held3 (fun w' => w'.cell? ⟨g, m * 2, none⟩ = some (.int .i64 x.1) ∧ w'.cell? ⟨g, m * 2 + 1, none⟩ = some (.string x.2) ∧ w'.cell? ⟨g, q * 2, none⟩ = some (.int .i64 y.1) ∧ w'.cell? ⟨g, q * 2 + 1, none⟩ = some (.string y.2)) (first | go_keep | exact ⟨(HB.out.cell (p := ⟨g, m * 2, none⟩) hgl).trans x0, (HB.out.cell (p := ⟨g, m * 2 + 1, none⟩) hgl).trans x1, (HB.out.cell (p := ⟨g, q * 2, none⟩) hgl).trans y0, (HB.out.cell (p := ⟨g, q * 2 + 1, none⟩) hgl).trans y1⟩) ((go_at_call 38; refine (itcmp_any x.1 x.2 y.1 y.2 _).mono ?_; rintro e u ⟨rfl, hb⟩; have HB := Lib.hid hb; clear hb))
      have HIu := Lib.hid ((show HI wr.drew g n D sp from HH.out).below HB.out)
      have HFu := Lib.hid (HF.out.drew.trans (Frm.below (S := fun k => k = g) HB.out) (fun _ h _ => h))
      clear x0 x1 y0 y1 HH HF HB
      cases hk : kless x y
      · have HK := Lib.hid (HXY.out.symm.trans hk)
        rw [hk] at hkl
        clear hk
        go_wp2_with fail
        clear wq
        go_roundw
        case rel => exact ⟨q + 1, j, by omega, by omega, hjb, by go_num, rfl, HDN.out HK.out, HHI.out, HIu.out, HFu.out⟩
        case measure => simp [intOf]; omega
      · have HK := Lib.hid (HXY.out.symm.trans hk)
        rw [hk] at hkl
        clear hk
        go_wp2_with fail
        clear wq
        go_roundw
        case rel => exact ⟨i, q, hi1, q1, by omega, rfl, rfl, HLO.out, HUP.out HK.out, HIu.out, HFu.out⟩
        case measure => simp [intOf]; omega
    · obtain rfl : i = j := by omega
      have HSE := Lib.hid (show Srt kless (shD D m i) a b from by rw [HM.out]; exact shD_srt kless_ord HSR.out hi1 hjb HLO.out HHI.out)
      have HSG := Lib.hid (show Seg a b D (shD D m i) from by have := shD_seg (m := m) (lo := a) (hi := b) D hmb (m - i) (by omega); rwa [show m - (m - i) = i by omega] at this)
      have HH0 := Lib.hid (show HI wr g n (shD D m m) sp from by rw [shD_zero]; exact HH.out)
      clear HLO HHI HH
      go_wp2_with fail
      go_loopw [17] (fun v13 wq => S2S w g n m i D sp v13 wq) (fun v13 _ => (intOf v13).toNat)
      case atStart => exact ⟨m, by omega, by omega, rfl, HH0.out, HF.out⟩
      case round =>
        clear HH0 HF
        obtain ⟨k, hk1, hk2, rfl, HH, HF⟩ := hrel
        by_cases hkr : i < k
        · obtain ⟨p, hp⟩ : ∃ p, k - 1 = p := ⟨_, rfl⟩
          have wp : IntKind.i64.wrap ((k : Int) - 1) = (p : Int) := by rw [IntWalk.i64_in _ (by omega)]; omega
          have HSU := Lib.hid (show swF (shD D m k) k p = shD D m p from by rw [← hp]; exact shD_succ D m k hk2 (by omega))
          generalize shD D m k = G at *
          have x0 := HH.out.c0 (k := k) (by omega)
          have x1 := HH.out.c1 (k := k) (by omega)
          have y0 := HH.out.c0 (k := p) (by omega)
          have y1 := HH.out.c1 (k := p) (by omega)
          have b1k : k < n := by omega
          have b2k : (0 : Int) ≤ (k : Int) := by omega
          have b3k : (k : Int) < (n : Int) := by omega
          have b1p : p < n := by omega
          have b2p : (0 : Int) ≤ (p : Int) := by omega
          have b3p : (p : Int) < (n : Int) := by omega
          have n1 : k * 2 ≠ p * 2 := by omega
          have n2 : k * 2 + 1 ≠ p * 2 + 1 := by omega
          have n3 : k * 2 ≠ p * 2 + 1 := by omega
          have n4 : k * 2 + 1 ≠ p * 2 := by omega
          have HX := Lib.hid (show HI (swW wr g k p (G k) (G p)) g n (shD D m p) sp from by rw [← HSU.out]; exact HH.out.swap (by omega) (by omega) (by omega))
          have HF2 := Lib.hid (HF.out.trans (swW_frm wr g k p (G k) (G p)) (fun _ h _ => h))
          have fz : ∀ k, wr.frozen? ⟨g, k, none⟩ = false := fun k => Blk.frozen HH.out k
          have hp1 : i ≤ p := by omega
          have hp2 : p ≤ m := by omega
          have hp3 : p < k := by omega
          clear hp HSU HH HF
          generalize G k = x at *
          generalize G p = y at *
          go_wp2_with fail
          go_region
          all_goals
            go_wp2_with fail
            clear wp
            go_roundw
            case rel => exact ⟨p, hp1, hp2, rfl, HX.out, HF2.out.drew⟩
            case measure => simp [intOf]; omega
        · obtain rfl : k = i := by omega
          go_wp2_with fail
          go_end0
          exact ⟨rfl, shD D m k, HH.out, HF.out, HSG.out, HSE.out⟩
end Go.Proofs.Ytjacebnjmhbcbaa
